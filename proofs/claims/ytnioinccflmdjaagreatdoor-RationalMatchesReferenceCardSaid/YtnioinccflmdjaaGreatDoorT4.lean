/- workpieceref04: cross, Add, Sub. Conditions: sizes. -/
import Derived.Test.YtnioinccflmdjaaGreatDoorT3
namespace Go.Proofs.YtnioinccflmdjaaGreatDoor
open Go.RowKit Num
open Go.Shelf

/-- A string, and an error that is named. -/
def RetKS (w : World) (s : ByteArray) (k : Int) (e : Ending) (w' : World) : Prop := e = .returned (.tuple #[.string s, .int .i64 k]) ∧ Below w.heap.size w w'
/-- Three strings, and whether they are there. -/
def RetC (w : World) (a b c : ByteArray) (ok : Bool) (e : Ending) (w' : World) : Prop := e = .returned (.tuple #[.string a, .string b, .string c, .bool ok]) ∧ Below w.heap.size w w'
theorem rmul_ks {s t : ByteArray} {a b : Int} (hs : Is s a) (ht : Is t b) (w : World) : Calls Tryz.prog 21 #[.string s, .string t] w (RetKS w (outI (a * b)).1 (outI (a * b)).2) := by
  refine (rmul_any s t (by have := hs.size; omega) (by have := ht.size; omega) w).mono fun e w' k => ?_
  rw [op2_ok hs ht] at k
  exact k
theorem outI_zero {z : Int} : ((outI z).2 == 0) = decide (sm z) := by
  by_cases h : sm z
  · rw [outI_ok h, decide_eq_true h]; rfl
  · rw [outI_no h, decide_eq_false h]; rfl
theorem outI_is {z : Int} (h : sm z) : Is (outI z).1 z := by rw [outI_ok h]; exact is_tx h

set_option maxHeartbeats 4000000 in
set_option maxRecDepth 100000 in
theorem cross_bad (x y u v : ByteArray) (hx : x.size ≤ 9223372036854775807) (hy : y.size ≤ 9223372036854775807) (hu : u.size ≤ 9223372036854775807) (hv : v.size ≤ 9223372036854775807) (h : ratO x y = none ∨ ratO u v = none) (w : World) :
    Calls Tryz.prog 63 #[.agg #[.string x, .string y], .agg #[.string u, .string v]] w (RetC w ⟨#[]⟩ ⟨#[]⟩ ⟨#[]⟩ false) := by
  have VA := Lib.hid (fun w => tvalid_any x y hx hy w)
  have VB := Lib.hid (fun w => tvalid_any u v hu hv w)
  have hB : Below w.heap.size w w := Below.refl _ _
  clear hx hy hu hv
  rcases h with h | h
  · rw [ok_none h] at VA
    generalize okR u v = bb at *
    clear h
    go_enter Tryz.func63, Tryz.ntmps63
    go_wp2_with (first
        | (go_at_call 40; (with_reducible refine (VA.out _).mono ?_); rintro e w1 ⟨rfl, hb⟩; have hp := below_up (below_up (below1 w (.cells #[.string x, .string y] 23)) (below1 ((w.alloc (.cells #[.string x, .string y] 23))) (.cells #[.string u, .string v] 23))) hb; have Ba := ((Blk.new w 23 [.string x, .string y]).alloc _).below hb; have Bb := (Blk.new2 w (.cells #[.string x, .string y] 23) 23 [.string u, .string v]).below hb; replace hB := below_up hB hp; clear hb hp; have cb_0 := Bb.cell 0 (v := .string u) rfl; have cb_1 := Bb.cell 1 (v := .string v) rfl)
        | (go_at_call 40; (with_reducible refine (VB.out _).mono ?_); rintro e w2 ⟨rfl, hb⟩; have hp := hb; replace Ba := Ba.below hp; replace Bb := Bb.below hp; clear cb_0 cb_1; replace hB := below_up hB hp; clear hb hp))
    all_goals refine bodyPost_ret (v := .tuple #[.string ⟨#[]⟩, .string ⟨#[]⟩, .string ⟨#[]⟩, .bool false]) (by simp [results, Tryz.results63, go_sem]) rfl ⟨rfl, hB⟩
  · rw [ok_none h] at VB
    cases hb0 : okR x y with
    | false =>
      rw [hb0] at VA
      clear h hb0
      go_enter Tryz.func63, Tryz.ntmps63
      go_wp2_with (first
          | (go_at_call 40; (with_reducible refine (VA.out _).mono ?_); rintro e w1 ⟨rfl, hb⟩; have hp := below_up (below_up (below1 w (.cells #[.string x, .string y] 23)) (below1 ((w.alloc (.cells #[.string x, .string y] 23))) (.cells #[.string u, .string v] 23))) hb; have Ba := ((Blk.new w 23 [.string x, .string y]).alloc _).below hb; have Bb := (Blk.new2 w (.cells #[.string x, .string y] 23) 23 [.string u, .string v]).below hb; replace hB := below_up hB hp; clear hb hp; have cb_0 := Bb.cell 0 (v := .string u) rfl; have cb_1 := Bb.cell 1 (v := .string v) rfl)
          | (go_at_call 40; (with_reducible refine (VB.out _).mono ?_); rintro e w2 ⟨rfl, hb⟩; have hp := hb; replace Ba := Ba.below hp; replace Bb := Bb.below hp; clear cb_0 cb_1; replace hB := below_up hB hp; clear hb hp))
      all_goals refine bodyPost_ret (v := .tuple #[.string ⟨#[]⟩, .string ⟨#[]⟩, .string ⟨#[]⟩, .bool false]) (by simp [results, Tryz.results63, go_sem]) rfl ⟨rfl, hB⟩
    | true =>
      rw [hb0] at VA
      clear h hb0
      go_enter Tryz.func63, Tryz.ntmps63
      go_wp2_with (first
          | (go_at_call 40; (with_reducible refine (VA.out _).mono ?_); rintro e w1 ⟨rfl, hb⟩; have hp := below_up (below_up (below1 w (.cells #[.string x, .string y] 23)) (below1 ((w.alloc (.cells #[.string x, .string y] 23))) (.cells #[.string u, .string v] 23))) hb; have Ba := ((Blk.new w 23 [.string x, .string y]).alloc _).below hb; have Bb := (Blk.new2 w (.cells #[.string x, .string y] 23) 23 [.string u, .string v]).below hb; replace hB := below_up hB hp; clear hb hp; have cb_0 := Bb.cell 0 (v := .string u) rfl; have cb_1 := Bb.cell 1 (v := .string v) rfl)
          | (go_at_call 40; (with_reducible refine (VB.out _).mono ?_); rintro e w2 ⟨rfl, hb⟩; have hp := hb; replace Ba := Ba.below hp; replace Bb := Bb.below hp; clear cb_0 cb_1; replace hB := below_up hB hp; clear hb hp))
      all_goals refine bodyPost_ret (v := .tuple #[.string ⟨#[]⟩, .string ⟨#[]⟩, .string ⟨#[]⟩, .bool false]) (by simp [results, Tryz.results63, go_sem]) rfl ⟨rfl, hB⟩

set_option maxHeartbeats 4000000 in
set_option maxRecDepth 100000 in
theorem cross_full (x y u v : ByteArray) (hx : x.size ≤ 9223372036854775807) (hy : y.size ≤ 9223372036854775807) (hu : u.size ≤ 9223372036854775807) (hv : v.size ≤ 9223372036854775807) (p q : Rat) (hp : Fr x y p) (hq : Fr u v q) (X Y D : ByteArray) (k1 k2 k3 : Int) (M1 : ∀ w, Calls Tryz.prog 21 #[.string x, .string v] w (RetKS w X k1)) (M2 : ∀ w, Calls Tryz.prog 21 #[.string u, .string y] w (RetKS w Y k2)) (M3 : ∀ w, Calls Tryz.prog 21 #[.string y, .string v] w (RetKS w D k3))
    (ok : Bool) (hok : ((k1 == 0) && ((k2 == 0) && (k3 == 0))) = ok) (w : World) :
    Calls Tryz.prog 63 #[.agg #[.string x, .string y], .agg #[.string u, .string v]] w (RetC w X Y D ok) := by
  have VA := Lib.hid (fun w => tvalid_any x y hx hy w)
  have VB := Lib.hid (fun w => tvalid_any u v hu hv w)
  have hB : Below w.heap.size w w := Below.refl _ _
  clear hx hy hu hv
  rw [hp.ok] at VA
  rw [hq.ok] at VB
  have M1 := Lib.hid M1
  have M2 := Lib.hid M2
  have M3 := Lib.hid M3
  have HOK := Lib.hid hok
  clear hok hp hq
  go_enter Tryz.func63, Tryz.ntmps63
  go_upto_region 8 with (first
      | (go_at_call 40; (with_reducible refine (VA.out _).mono ?_); rintro e w1 ⟨rfl, hb⟩; have hp := below_up (below_up (below1 w (.cells #[.string x, .string y] 23)) (below1 ((w.alloc (.cells #[.string x, .string y] 23))) (.cells #[.string u, .string v] 23))) hb; have Ba := ((Blk.new w 23 [.string x, .string y]).alloc _).below hb; have Bb := (Blk.new2 w (.cells #[.string x, .string y] 23) 23 [.string u, .string v]).below hb; replace hB := below_up hB hp; clear hb hp; have cb_0 := Bb.cell 0 (v := .string u) rfl; have cb_1 := Bb.cell 1 (v := .string v) rfl)
      | (go_at_call 40; (with_reducible refine (VB.out _).mono ?_); rintro e w2 ⟨rfl, hb⟩; have hp := hb; replace Ba := Ba.below hp; replace Bb := Bb.below hp; clear cb_0 cb_1; replace hB := below_up hB hp; clear hb hp; have ca_0 := Ba.cell 0 (v := .string x) rfl; have ca_1 := Ba.cell 1 (v := .string y) rfl; have cb_0 := Bb.cell 0 (v := .string u) rfl; have cb_1 := Bb.cell 1 (v := .string v) rfl)
      | (go_at_call 21; (with_reducible refine (M1.out _).mono ?_); rintro e w3 ⟨rfl, hb⟩; have hp := hb; replace Ba := Ba.below hp; replace Bb := Bb.below hp; clear ca_0 ca_1 cb_0 cb_1; replace hB := below_up hB hp; clear hb hp; have ca_0 := Ba.cell 0 (v := .string x) rfl; have ca_1 := Ba.cell 1 (v := .string y) rfl; have cb_0 := Bb.cell 0 (v := .string u) rfl; have cb_1 := Bb.cell 1 (v := .string v) rfl)
      | (go_at_call 21; (with_reducible refine (M2.out _).mono ?_); rintro e w4 ⟨rfl, hb⟩; have hp := hb; replace Ba := Ba.below hp; replace Bb := Bb.below hp; clear ca_0 ca_1 cb_0 cb_1; replace hB := below_up hB hp; clear hb hp; have ca_0 := Ba.cell 0 (v := .string x) rfl; have ca_1 := Ba.cell 1 (v := .string y) rfl; have cb_0 := Bb.cell 0 (v := .string u) rfl; have cb_1 := Bb.cell 1 (v := .string v) rfl)
      | (go_at_call 21; (with_reducible refine (M3.out _).mono ?_); rintro e w5 ⟨rfl, hb⟩; have hp := hb; replace Ba := Ba.below hp; replace Bb := Bb.below hp; clear ca_0 ca_1 cb_0 cb_1; replace hB := below_up hB hp; clear hb hp))
  clear VA VB
  by_cases h1 : k1 = 0
  · subst h1
    by_cases h2 : k2 = 0
    · subst h2
      by_cases h3 : k3 = 0
      · subst h3
        obtain rfl : ok = true := HOK.out.symm
        go_wp2
        refine bodyPost_ret (v := .tuple #[.string X, .string Y, .string D, .bool true]) (by simp [results, Tryz.results63, go_sem]) rfl ⟨rfl, hB⟩
      · replace h3 : (k3 == 0) = false := beq_eq_false_iff_ne.2 h3
        obtain rfl : ok = false := by rw [← HOK.out, h3]; rfl
        go_wp2
        refine bodyPost_ret (v := .tuple #[.string X, .string Y, .string D, .bool false]) (by simp [results, Tryz.results63, go_sem]) rfl ⟨rfl, hB⟩
    · replace h2 : (k2 == 0) = false := beq_eq_false_iff_ne.2 h2
      obtain rfl : ok = false := by rw [← HOK.out, h2]; rfl
      go_wp2
      refine bodyPost_ret (v := .tuple #[.string X, .string Y, .string D, .bool false]) (by simp [results, Tryz.results63, go_sem]) rfl ⟨rfl, hB⟩
  · replace h1 : (k1 == 0) = false := beq_eq_false_iff_ne.2 h1
    obtain rfl : ok = false := by rw [← HOK.out, h1]; rfl
    go_wp2
    refine bodyPost_ret (v := .tuple #[.string X, .string Y, .string D, .bool false]) (by simp [results, Tryz.results63, go_sem]) rfl ⟨rfl, hB⟩

theorem radd_is {s t r : ByteArray} {a b c : Int} (hs : Is s a) (ht : Is t b) (hr : Is r c) (h : a + b = c) (w : World) :
    Calls Tryz.prog 64 #[.string s, .string t] w (RetSt w r) := by
  refine (radd_any s t (by have := hs.size; omega) (by have := ht.size; omega) w).mono fun e w' k => ?_
  rw [op2_ok hs ht] at k
  simp only [h] at k
  rw [outI_ok hr.small, ← hr.eq] at k
  exact k
theorem radd_over {s t : ByteArray} {a b : Int} (hs : Is s a) (ht : Is t b) (h : ¬ sm (a + b)) (w : World) :
    Calls Tryz.prog 64 #[.string s, .string t] w (RetE w) := by
  refine (radd_any s t (by have := hs.size; omega) (by have := ht.size; omega) w).mono fun e w' k => ?_
  rw [op2_ok hs ht] at k
  simp only [outI_no h] at k
  exact k
theorem rsub_over {s t : ByteArray} {a b : Int} (hs : Is s a) (ht : Is t b) (h : ¬ sm (a - b)) (w : World) :
    Calls Tryz.prog 65 #[.string s, .string t] w (RetE w) := by
  refine (rsub_any s t (by have := hs.size; omega) (by have := ht.size; omega) w).mono fun e w' k => ?_
  rw [op2_ok hs ht] at k
  simp only [outI_no h] at k
  exact k

set_option maxHeartbeats 4000000 in
set_option maxRecDepth 100000 in
theorem tadd_any (x y u v : ByteArray) (hx : x.size ≤ 9223372036854775807) (hy : y.size ≤ 9223372036854775807) (hu : u.size ≤ 9223372036854775807) (hv : v.size ≤ 9223372036854775807) (w : World) :
    Calls Tryz.prog 30 #[.agg #[.string x, .string y], .agg #[.string u, .string v]] w (RetQ w (op2Q addQ (ratO x y) (ratO u v))) := by
  have hB : Below w.heap.size w w := Below.refl _ _
  obtain ⟨o, ho⟩ : ∃ o, op2Q addQ (ratO x y) (ratO u v) = o := ⟨_, rfl⟩
  rw [ho]
  by_cases hbad : ratO x y = none ∨ ratO u v = none
  · have CX := Lib.hid (fun w => cross_bad x y u v hx hy hu hv hbad w)
    obtain rfl : o = none := by
      rw [← ho]
      rcases hbad with h | h
      · rw [h]; rfl
      · rw [h]; cases ratO x y <;> rfl
    clear hx hy hu hv hbad ho
    go_enter Tryz.func30, Tryz.ntmps30
    go_wp2_with (first
        | (go_at_call 63; (with_reducible refine (CX.out _).mono ?_); rintro e w1 ⟨rfl, hb⟩; have hp := below_up (below_up (below_up (below1 w (.cells #[.string x, .string y] 23)) (below1 ((w.alloc (.cells #[.string x, .string y] 23))) (.cells #[.string u, .string v] 23))) (below1 (((w.alloc (.cells #[.string x, .string y] 23)).alloc (.cells #[.string u, .string v] 23))) (.cells #[.string ⟨#[]⟩, .string ⟨#[]⟩] 23))) hb; have Ba := (((Blk.new w 23 [.string x, .string y]).alloc _).alloc _).below hb; have Bb := ((Blk.new2 w (.cells #[.string x, .string y] 23) 23 [.string u, .string v]).alloc _).below hb; have Bz := (Blk.new3 w (.cells #[.string x, .string y] 23) (.cells #[.string u, .string v] 23) 23 [.string ⟨#[]⟩, .string ⟨#[]⟩]).below hb; replace hB := below_up hB hp; clear hb hp; have cz_0 := Bz.cell 0 (v := .string ⟨#[]⟩) rfl; have cz_1 := Bz.cell 1 (v := .string ⟨#[]⟩) rfl; have f0 := Bz.frozen 0; have f1 := Bz.frozen 1))
    have ZF := (Bz.set 0 (.string ⟨#[]⟩)).set 1 (.string ⟨#[]⟩)
    have e0 := ZF.cell 0 (v := .string ⟨#[]⟩) rfl
    have e1 := ZF.cell 1 (v := .string ⟨#[]⟩) rfl
    refine bodyPost_ret (v := .tuple #[.agg #[.string ⟨#[]⟩, .string ⟨#[]⟩], .int .i64 40]) (by simp [results, Tryz.results30, go_sem, e0, e1]) rfl ⟨rfl, (hB.setCell (by dsimp; omega) _).setCell (by dsimp; omega) _⟩
  · obtain ⟨p, hp⟩ : ∃ p, ratO x y = some p := by cases h : ratO x y with
      | none => exact absurd (.inl h) hbad
      | some p => exact ⟨p, rfl⟩
    obtain ⟨q, hq⟩ : ∃ q, ratO u v = some q := by cases h : ratO u v with
      | none => exact absurd (.inr h) hbad
      | some q => exact ⟨q, rfl⟩
    rw [hp, hq] at ho
    have ho : addQ p q = o := ho
    have fp := ratO_some.1 hp
    have fq := ratO_some.1 hq
    have CX0 := fun w ok hok => cross_full x y u v hx hy hu hv p q fp fq _ _ _ _ _ _ (fun w => rmul_ks fp.1 fq.2 w) (fun w => rmul_ks fq.1 fp.2 w) (fun w => rmul_ks fp.2 fq.2 w) ok hok w
    simp only [outI_zero] at CX0
    by_cases e1 : sm (p.num * q.den) ∧ sm (q.num * p.den) ∧ sm ((p.den : Int) * q.den)
    · obtain ⟨c1, c2, c3⟩ := e1
      have CX := Lib.hid (fun w => CX0 w true (by rw [decide_eq_true c1, decide_eq_true c2, decide_eq_true c3]; rfl))
      have i1 := outI_is c1
      have i2 := outI_is c2
      have i3 := outI_is c3
      generalize (outI (p.num * q.den)).1 = X at *
      generalize (outI (q.num * p.den)).1 = Y at *
      generalize (outI ((p.den : Int) * q.den)).1 = D at *
      by_cases e2 : sm (p.num * q.den + q.num * p.den)
      · obtain ⟨N, hN⟩ := Is.ex e2
        have CA := Lib.hid (fun w => radd_is i1 i2 hN rfl w)
        have hmk : makeQ (p.num * q.den + q.num * p.den) ((p.den : Int) * q.den) = o := by
          rw [← ho]
          unfold addQ
          rw [if_pos ⟨c1, c2, e2, c3⟩, add_divInt]
          exact if_neg (Int.mul_ne_zero (den_ne p) (den_ne q))
        have MK := Lib.hid (fun w => tmake_is hN i3 hmk w)
        clear CX0 i1 i2 i3 c1 c2 c3 e2 hN hmk ho hp hq fp fq hbad hx hy hu hv
        go_enter Tryz.func30, Tryz.ntmps30
        go_wp2_with (first
            | (go_at_call 63; (with_reducible refine (CX.out _).mono ?_); rintro e w1 ⟨rfl, hb⟩; have hp := below_up (below_up (below_up (below1 w (.cells #[.string x, .string y] 23)) (below1 ((w.alloc (.cells #[.string x, .string y] 23))) (.cells #[.string u, .string v] 23))) (below1 (((w.alloc (.cells #[.string x, .string y] 23)).alloc (.cells #[.string u, .string v] 23))) (.cells #[.string ⟨#[]⟩, .string ⟨#[]⟩] 23))) hb; have Ba := (((Blk.new w 23 [.string x, .string y]).alloc _).alloc _).below hb; have Bb := ((Blk.new2 w (.cells #[.string x, .string y] 23) 23 [.string u, .string v]).alloc _).below hb; have Bz := (Blk.new3 w (.cells #[.string x, .string y] 23) (.cells #[.string u, .string v] 23) 23 [.string ⟨#[]⟩, .string ⟨#[]⟩]).below hb; replace hB := below_up hB hp; clear hb hp)
            | (go_at_call 64; (with_reducible refine (CA.out _).mono ?_); rintro e w2 ⟨rfl, hb⟩; have hp := hb; replace Ba := Ba.below hp; replace Bb := Bb.below hp; replace Bz := Bz.below hp; replace hB := below_up hB hp; clear hb hp)
            | (go_at_call 39; (with_reducible refine (MK.out _).mono ?_); rintro e w3 ⟨rfl, hb⟩; have hp := hb; replace Ba := Ba.below hp; replace Bb := Bb.below hp; replace Bz := Bz.below hp; replace hB := below_up hB hp; clear hb hp; have cz_0 := Bz.cell 0 (v := .string ⟨#[]⟩) rfl; have cz_1 := Bz.cell 1 (v := .string ⟨#[]⟩) rfl; have f0 := Bz.frozen 0; have f1 := Bz.frozen 1))
        have ZF := (Bz.set 0 (.string (numT o))).set 1 (.string (denT o))
        have e0 := ZF.cell 0 (v := .string (numT o)) rfl
        have e1 := ZF.cell 1 (v := .string (denT o)) rfl
        refine bodyPost_ret (v := .tuple #[.agg #[.string (numT o), .string (denT o)], .int .i64 (errT o)]) (by simp [results, Tryz.results30, go_sem, e0, e1]) rfl ⟨rfl, (hB.setCell (by dsimp; omega) _).setCell (by dsimp; omega) _⟩
      · have CA := Lib.hid (fun w => radd_over i1 i2 e2 w)
        obtain rfl : o = none := by
          rw [← ho]; unfold addQ
          exact if_neg (fun h => e2 h.2.2.1)
        clear CX0 i1 i2 i3 c1 c2 c3 e2 ho hp hq fp fq hbad hx hy hu hv
        go_enter Tryz.func30, Tryz.ntmps30
        go_wp2_with (first
            | (go_at_call 63; (with_reducible refine (CX.out _).mono ?_); rintro e w1 ⟨rfl, hb⟩; have hp := below_up (below_up (below_up (below1 w (.cells #[.string x, .string y] 23)) (below1 ((w.alloc (.cells #[.string x, .string y] 23))) (.cells #[.string u, .string v] 23))) (below1 (((w.alloc (.cells #[.string x, .string y] 23)).alloc (.cells #[.string u, .string v] 23))) (.cells #[.string ⟨#[]⟩, .string ⟨#[]⟩] 23))) hb; have Ba := (((Blk.new w 23 [.string x, .string y]).alloc _).alloc _).below hb; have Bb := ((Blk.new2 w (.cells #[.string x, .string y] 23) 23 [.string u, .string v]).alloc _).below hb; have Bz := (Blk.new3 w (.cells #[.string x, .string y] 23) (.cells #[.string u, .string v] 23) 23 [.string ⟨#[]⟩, .string ⟨#[]⟩]).below hb; replace hB := below_up hB hp; clear hb hp)
            | (go_at_call 64; (with_reducible refine (CA.out _).mono ?_); rintro e w2 ⟨rfl, hb⟩; have hp := hb; replace Ba := Ba.below hp; replace Bb := Bb.below hp; replace Bz := Bz.below hp; replace hB := below_up hB hp; clear hb hp; have cz_0 := Bz.cell 0 (v := .string ⟨#[]⟩) rfl; have cz_1 := Bz.cell 1 (v := .string ⟨#[]⟩) rfl; have f0 := Bz.frozen 0; have f1 := Bz.frozen 1))
        have ZF := (Bz.set 0 (.string ⟨#[]⟩)).set 1 (.string ⟨#[]⟩)
        have e0 := ZF.cell 0 (v := .string ⟨#[]⟩) rfl
        have e1 := ZF.cell 1 (v := .string ⟨#[]⟩) rfl
        refine bodyPost_ret (v := .tuple #[.agg #[.string ⟨#[]⟩, .string ⟨#[]⟩], .int .i64 40]) (by simp [results, Tryz.results30, go_sem, e0, e1]) rfl ⟨rfl, (hB.setCell (by dsimp; omega) _).setCell (by dsimp; omega) _⟩
    · have CX := Lib.hid (fun w => CX0 w false (by
        by_cases c1 : sm (p.num * q.den)
        · by_cases c2 : sm (q.num * p.den)
          · have c3 : ¬ sm ((p.den : Int) * q.den) := fun c3 => e1 ⟨c1, c2, c3⟩
            rw [decide_eq_false c3]; simp
          · rw [decide_eq_false c2]; simp
        · rw [decide_eq_false c1]; rfl))
      obtain rfl : o = none := by
        rw [← ho]; unfold addQ
        exact if_neg (fun h => e1 ⟨h.1, h.2.1, h.2.2.2⟩)
      generalize (outI (p.num * q.den)).1 = X at *
      generalize (outI (q.num * p.den)).1 = Y at *
      generalize (outI ((p.den : Int) * q.den)).1 = D at *
      clear CX0 e1 ho hp hq fp fq hbad hx hy hu hv
      go_enter Tryz.func30, Tryz.ntmps30
      go_wp2_with (first
          | (go_at_call 63; (with_reducible refine (CX.out _).mono ?_); rintro e w1 ⟨rfl, hb⟩; have hp := below_up (below_up (below_up (below1 w (.cells #[.string x, .string y] 23)) (below1 ((w.alloc (.cells #[.string x, .string y] 23))) (.cells #[.string u, .string v] 23))) (below1 (((w.alloc (.cells #[.string x, .string y] 23)).alloc (.cells #[.string u, .string v] 23))) (.cells #[.string ⟨#[]⟩, .string ⟨#[]⟩] 23))) hb; have Ba := (((Blk.new w 23 [.string x, .string y]).alloc _).alloc _).below hb; have Bb := ((Blk.new2 w (.cells #[.string x, .string y] 23) 23 [.string u, .string v]).alloc _).below hb; have Bz := (Blk.new3 w (.cells #[.string x, .string y] 23) (.cells #[.string u, .string v] 23) 23 [.string ⟨#[]⟩, .string ⟨#[]⟩]).below hb; replace hB := below_up hB hp; clear hb hp; have cz_0 := Bz.cell 0 (v := .string ⟨#[]⟩) rfl; have cz_1 := Bz.cell 1 (v := .string ⟨#[]⟩) rfl; have f0 := Bz.frozen 0; have f1 := Bz.frozen 1))
      have ZF := (Bz.set 0 (.string ⟨#[]⟩)).set 1 (.string ⟨#[]⟩)
      have e0 := ZF.cell 0 (v := .string ⟨#[]⟩) rfl
      have e1 := ZF.cell 1 (v := .string ⟨#[]⟩) rfl
      refine bodyPost_ret (v := .tuple #[.agg #[.string ⟨#[]⟩, .string ⟨#[]⟩], .int .i64 40]) (by simp [results, Tryz.results30, go_sem, e0, e1]) rfl ⟨rfl, (hB.setCell (by dsimp; omega) _).setCell (by dsimp; omega) _⟩

set_option maxHeartbeats 4000000 in
set_option maxRecDepth 100000 in
theorem tsub_any (x y u v : ByteArray) (hx : x.size ≤ 9223372036854775807) (hy : y.size ≤ 9223372036854775807) (hu : u.size ≤ 9223372036854775807) (hv : v.size ≤ 9223372036854775807) (w : World) :
    Calls Tryz.prog 31 #[.agg #[.string x, .string y], .agg #[.string u, .string v]] w (RetQ w (op2Q subQ (ratO x y) (ratO u v))) := by
  have hB : Below w.heap.size w w := Below.refl _ _
  obtain ⟨o, ho⟩ : ∃ o, op2Q subQ (ratO x y) (ratO u v) = o := ⟨_, rfl⟩
  rw [ho]
  by_cases hbad : ratO x y = none ∨ ratO u v = none
  · have CX := Lib.hid (fun w => cross_bad x y u v hx hy hu hv hbad w)
    obtain rfl : o = none := by
      rw [← ho]
      rcases hbad with h | h
      · rw [h]; rfl
      · rw [h]; cases ratO x y <;> rfl
    clear hx hy hu hv hbad ho
    go_enter Tryz.func31, Tryz.ntmps31
    go_wp2_with (first
        | (go_at_call 63; (with_reducible refine (CX.out _).mono ?_); rintro e w1 ⟨rfl, hb⟩; have hp := below_up (below_up (below_up (below1 w (.cells #[.string x, .string y] 23)) (below1 ((w.alloc (.cells #[.string x, .string y] 23))) (.cells #[.string u, .string v] 23))) (below1 (((w.alloc (.cells #[.string x, .string y] 23)).alloc (.cells #[.string u, .string v] 23))) (.cells #[.string ⟨#[]⟩, .string ⟨#[]⟩] 23))) hb; have Ba := (((Blk.new w 23 [.string x, .string y]).alloc _).alloc _).below hb; have Bb := ((Blk.new2 w (.cells #[.string x, .string y] 23) 23 [.string u, .string v]).alloc _).below hb; have Bz := (Blk.new3 w (.cells #[.string x, .string y] 23) (.cells #[.string u, .string v] 23) 23 [.string ⟨#[]⟩, .string ⟨#[]⟩]).below hb; replace hB := below_up hB hp; clear hb hp; have cz_0 := Bz.cell 0 (v := .string ⟨#[]⟩) rfl; have cz_1 := Bz.cell 1 (v := .string ⟨#[]⟩) rfl; have f0 := Bz.frozen 0; have f1 := Bz.frozen 1))
    have ZF := (Bz.set 0 (.string ⟨#[]⟩)).set 1 (.string ⟨#[]⟩)
    have e0 := ZF.cell 0 (v := .string ⟨#[]⟩) rfl
    have e1 := ZF.cell 1 (v := .string ⟨#[]⟩) rfl
    refine bodyPost_ret (v := .tuple #[.agg #[.string ⟨#[]⟩, .string ⟨#[]⟩], .int .i64 40]) (by simp [results, Tryz.results31, go_sem, e0, e1]) rfl ⟨rfl, (hB.setCell (by dsimp; omega) _).setCell (by dsimp; omega) _⟩
  · obtain ⟨p, hp⟩ : ∃ p, ratO x y = some p := by cases h : ratO x y with
      | none => exact absurd (.inl h) hbad
      | some p => exact ⟨p, rfl⟩
    obtain ⟨q, hq⟩ : ∃ q, ratO u v = some q := by cases h : ratO u v with
      | none => exact absurd (.inr h) hbad
      | some q => exact ⟨q, rfl⟩
    rw [hp, hq] at ho
    have ho : subQ p q = o := ho
    have fp := ratO_some.1 hp
    have fq := ratO_some.1 hq
    have CX0 := fun w ok hok => cross_full x y u v hx hy hu hv p q fp fq _ _ _ _ _ _ (fun w => rmul_ks fp.1 fq.2 w) (fun w => rmul_ks fq.1 fp.2 w) (fun w => rmul_ks fp.2 fq.2 w) ok hok w
    simp only [outI_zero] at CX0
    by_cases e1 : sm (p.num * q.den) ∧ sm (q.num * p.den) ∧ sm ((p.den : Int) * q.den)
    · obtain ⟨c1, c2, c3⟩ := e1
      have CX := Lib.hid (fun w => CX0 w true (by rw [decide_eq_true c1, decide_eq_true c2, decide_eq_true c3]; rfl))
      have i1 := outI_is c1
      have i2 := outI_is c2
      have i3 := outI_is c3
      generalize (outI (p.num * q.den)).1 = X at *
      generalize (outI (q.num * p.den)).1 = Y at *
      generalize (outI ((p.den : Int) * q.den)).1 = D at *
      by_cases e2 : sm (p.num * q.den - q.num * p.den)
      · obtain ⟨N, hN⟩ := Is.ex e2
        have CA := Lib.hid (fun w => rsub_is i1 i2 hN rfl w)
        have hmk : makeQ (p.num * q.den - q.num * p.den) ((p.den : Int) * q.den) = o := by
          rw [← ho]
          unfold subQ
          rw [if_pos ⟨c1, c2, e2, c3⟩, sub_divInt]
          exact if_neg (Int.mul_ne_zero (den_ne p) (den_ne q))
        have MK := Lib.hid (fun w => tmake_is hN i3 hmk w)
        clear CX0 i1 i2 i3 c1 c2 c3 e2 hN hmk ho hp hq fp fq hbad hx hy hu hv
        go_enter Tryz.func31, Tryz.ntmps31
        go_wp2_with (first
            | (go_at_call 63; (with_reducible refine (CX.out _).mono ?_); rintro e w1 ⟨rfl, hb⟩; have hp := below_up (below_up (below_up (below1 w (.cells #[.string x, .string y] 23)) (below1 ((w.alloc (.cells #[.string x, .string y] 23))) (.cells #[.string u, .string v] 23))) (below1 (((w.alloc (.cells #[.string x, .string y] 23)).alloc (.cells #[.string u, .string v] 23))) (.cells #[.string ⟨#[]⟩, .string ⟨#[]⟩] 23))) hb; have Ba := (((Blk.new w 23 [.string x, .string y]).alloc _).alloc _).below hb; have Bb := ((Blk.new2 w (.cells #[.string x, .string y] 23) 23 [.string u, .string v]).alloc _).below hb; have Bz := (Blk.new3 w (.cells #[.string x, .string y] 23) (.cells #[.string u, .string v] 23) 23 [.string ⟨#[]⟩, .string ⟨#[]⟩]).below hb; replace hB := below_up hB hp; clear hb hp)
            | (go_at_call 65; (with_reducible refine (CA.out _).mono ?_); rintro e w2 ⟨rfl, hb⟩; have hp := hb; replace Ba := Ba.below hp; replace Bb := Bb.below hp; replace Bz := Bz.below hp; replace hB := below_up hB hp; clear hb hp)
            | (go_at_call 39; (with_reducible refine (MK.out _).mono ?_); rintro e w3 ⟨rfl, hb⟩; have hp := hb; replace Ba := Ba.below hp; replace Bb := Bb.below hp; replace Bz := Bz.below hp; replace hB := below_up hB hp; clear hb hp; have cz_0 := Bz.cell 0 (v := .string ⟨#[]⟩) rfl; have cz_1 := Bz.cell 1 (v := .string ⟨#[]⟩) rfl; have f0 := Bz.frozen 0; have f1 := Bz.frozen 1))
        have ZF := (Bz.set 0 (.string (numT o))).set 1 (.string (denT o))
        have e0 := ZF.cell 0 (v := .string (numT o)) rfl
        have e1 := ZF.cell 1 (v := .string (denT o)) rfl
        refine bodyPost_ret (v := .tuple #[.agg #[.string (numT o), .string (denT o)], .int .i64 (errT o)]) (by simp [results, Tryz.results31, go_sem, e0, e1]) rfl ⟨rfl, (hB.setCell (by dsimp; omega) _).setCell (by dsimp; omega) _⟩
      · have CA := Lib.hid (fun w => rsub_over i1 i2 e2 w)
        obtain rfl : o = none := by
          rw [← ho]; unfold subQ
          exact if_neg (fun h => e2 h.2.2.1)
        clear CX0 i1 i2 i3 c1 c2 c3 e2 ho hp hq fp fq hbad hx hy hu hv
        go_enter Tryz.func31, Tryz.ntmps31
        go_wp2_with (first
            | (go_at_call 63; (with_reducible refine (CX.out _).mono ?_); rintro e w1 ⟨rfl, hb⟩; have hp := below_up (below_up (below_up (below1 w (.cells #[.string x, .string y] 23)) (below1 ((w.alloc (.cells #[.string x, .string y] 23))) (.cells #[.string u, .string v] 23))) (below1 (((w.alloc (.cells #[.string x, .string y] 23)).alloc (.cells #[.string u, .string v] 23))) (.cells #[.string ⟨#[]⟩, .string ⟨#[]⟩] 23))) hb; have Ba := (((Blk.new w 23 [.string x, .string y]).alloc _).alloc _).below hb; have Bb := ((Blk.new2 w (.cells #[.string x, .string y] 23) 23 [.string u, .string v]).alloc _).below hb; have Bz := (Blk.new3 w (.cells #[.string x, .string y] 23) (.cells #[.string u, .string v] 23) 23 [.string ⟨#[]⟩, .string ⟨#[]⟩]).below hb; replace hB := below_up hB hp; clear hb hp)
            | (go_at_call 65; (with_reducible refine (CA.out _).mono ?_); rintro e w2 ⟨rfl, hb⟩; have hp := hb; replace Ba := Ba.below hp; replace Bb := Bb.below hp; replace Bz := Bz.below hp; replace hB := below_up hB hp; clear hb hp; have cz_0 := Bz.cell 0 (v := .string ⟨#[]⟩) rfl; have cz_1 := Bz.cell 1 (v := .string ⟨#[]⟩) rfl; have f0 := Bz.frozen 0; have f1 := Bz.frozen 1))
        have ZF := (Bz.set 0 (.string ⟨#[]⟩)).set 1 (.string ⟨#[]⟩)
        have e0 := ZF.cell 0 (v := .string ⟨#[]⟩) rfl
        have e1 := ZF.cell 1 (v := .string ⟨#[]⟩) rfl
        refine bodyPost_ret (v := .tuple #[.agg #[.string ⟨#[]⟩, .string ⟨#[]⟩], .int .i64 40]) (by simp [results, Tryz.results31, go_sem, e0, e1]) rfl ⟨rfl, (hB.setCell (by dsimp; omega) _).setCell (by dsimp; omega) _⟩
    · have CX := Lib.hid (fun w => CX0 w false (by
        by_cases c1 : sm (p.num * q.den)
        · by_cases c2 : sm (q.num * p.den)
          · have c3 : ¬ sm ((p.den : Int) * q.den) := fun c3 => e1 ⟨c1, c2, c3⟩
            rw [decide_eq_false c3]; simp
          · rw [decide_eq_false c2]; simp
        · rw [decide_eq_false c1]; rfl))
      obtain rfl : o = none := by
        rw [← ho]; unfold subQ
        exact if_neg (fun h => e1 ⟨h.1, h.2.1, h.2.2.2⟩)
      generalize (outI (p.num * q.den)).1 = X at *
      generalize (outI (q.num * p.den)).1 = Y at *
      generalize (outI ((p.den : Int) * q.den)).1 = D at *
      clear CX0 e1 ho hp hq fp fq hbad hx hy hu hv
      go_enter Tryz.func31, Tryz.ntmps31
      go_wp2_with (first
          | (go_at_call 63; (with_reducible refine (CX.out _).mono ?_); rintro e w1 ⟨rfl, hb⟩; have hp := below_up (below_up (below_up (below1 w (.cells #[.string x, .string y] 23)) (below1 ((w.alloc (.cells #[.string x, .string y] 23))) (.cells #[.string u, .string v] 23))) (below1 (((w.alloc (.cells #[.string x, .string y] 23)).alloc (.cells #[.string u, .string v] 23))) (.cells #[.string ⟨#[]⟩, .string ⟨#[]⟩] 23))) hb; have Ba := (((Blk.new w 23 [.string x, .string y]).alloc _).alloc _).below hb; have Bb := ((Blk.new2 w (.cells #[.string x, .string y] 23) 23 [.string u, .string v]).alloc _).below hb; have Bz := (Blk.new3 w (.cells #[.string x, .string y] 23) (.cells #[.string u, .string v] 23) 23 [.string ⟨#[]⟩, .string ⟨#[]⟩]).below hb; replace hB := below_up hB hp; clear hb hp; have cz_0 := Bz.cell 0 (v := .string ⟨#[]⟩) rfl; have cz_1 := Bz.cell 1 (v := .string ⟨#[]⟩) rfl; have f0 := Bz.frozen 0; have f1 := Bz.frozen 1))
      have ZF := (Bz.set 0 (.string ⟨#[]⟩)).set 1 (.string ⟨#[]⟩)
      have e0 := ZF.cell 0 (v := .string ⟨#[]⟩) rfl
      have e1 := ZF.cell 1 (v := .string ⟨#[]⟩) rfl
      refine bodyPost_ret (v := .tuple #[.agg #[.string ⟨#[]⟩, .string ⟨#[]⟩], .int .i64 40]) (by simp [results, Tryz.results31, go_sem, e0, e1]) rfl ⟨rfl, (hB.setCell (by dsimp; omega) _).setCell (by dsimp; omega) _⟩

end Go.Proofs.YtnioinccflmdjaaGreatDoor
