/- The walk of PolyDerivative. Conditions: the tables of strconv; the two integers are ints. -/
import Derived.Test.YtaalbmnlpppeaaaGreatDoorG46
import Derived.Test.YtaalbmnlpppeaaaGreatDoorM9
namespace Go.Proofs.YtaalbmnlpppeaaaGreatDoor
open Go.RowKit Num
open Go.Shelf

set_option maxHeartbeats 1000000 in
theorem deriv_con {p q : List Rat} {v : Rat} (hp : In p) (hq : In q) (hv : lim 3 v) : ∃ pq d dp dq a b u sq : List Rat, ∃ ep ed ta st : Rat,
    Hid (∀ (w : World) (s t : Value), Pv w s p → Pv w t q → Laid w → Calls Tryz.prog 9 #[s, t] w (RetLE w pq)) ∧
    Hid (∀ (w : World) (s : Value), Pv w s pq → Laid w → Calls Tryz.prog 14 #[s] w (RetLE w d)) ∧
    Hid (∀ (w : World) (s : Value), Pv w s p → Laid w → Calls Tryz.prog 14 #[s] w (RetLE w dp)) ∧
    Hid (∀ (w : World) (s : Value), Pv w s q → Laid w → Calls Tryz.prog 14 #[s] w (RetLE w dq)) ∧
    Hid (∀ (w : World) (s t : Value), Pv w s dp → Pv w t q → Laid w → Calls Tryz.prog 9 #[s, t] w (RetLE w a)) ∧
    Hid (∀ (w : World) (s t : Value), Pv w s p → Pv w t dq → Laid w → Calls Tryz.prog 9 #[s, t] w (RetLE w b)) ∧
    Hid (∀ (w : World) (s t : Value), Pv w s a → Pv w t b → Laid w → Calls Tryz.prog 10 #[s, t] w (RetLE w d)) ∧
    Hid (∀ (w : World) (s : Value), Pv w s p → Laid w → Calls Tryz.prog 15 #[s, .agg #[.string (numT (some v)), .string (denT (some v))]] w (RetQk w (some ep) 0)) ∧
    Hid (∀ (w : World) (s : Value), Pv w s dp → Laid w → Calls Tryz.prog 15 #[s, .agg #[.string (numT (some v)), .string (denT (some v))]] w (RetQk w (some ed) 0)) ∧
    Hid (∀ w : World, Laid w → Calls Tryz.prog 16 #[.agg #[.string (numT (some (0 : Rat))), .string (denT (some (0 : Rat)))], .agg #[.string (numT (some v)), .string (denT (some v))]] w (RetQk w (some (-v)) 0)) ∧
    Hid (∀ (w : World) (s t : Value), Pv w s [-v, 1] → Pv w t [-v, 1] → Laid w → Calls Tryz.prog 9 #[s, t] w (RetLE w sq)) ∧
    Hid (∀ (w : World) (s t : Value), Pv w s p → Pv w t sq → Laid w → Calls Tryz.prog 8 #[s, t] w (RetL2 w u (trimP [st, ed]))) ∧
    Hid (∀ w : World, Laid w → Calls Tryz.prog 18 #[.agg #[.string (numT (some ed)), .string (denT (some ed))], .agg #[.string (numT (some (-v))), .string (denT (some (-v)))]] w (RetQk w (some ta) 0)) ∧
    Hid (∀ w : World, Laid w → Calls Tryz.prog 19 #[.agg #[.string (numT (some ep)), .string (denT (some ep))], .agg #[.string (numT (some ta)), .string (denT (some ta))]] w (RetQk w (some st) 0)) ∧
    Hid (∀ (w : World) (s t : Value), Pv w s ([] : List Rat) → Pv w t ([] : List Rat) → Laid w → Calls Tryz.prog 10 #[s, t] w (RetLE w [])) ∧
    (∀ i, fitQ (cf [-v, 1] i)) ∧
    fitQ st ∧
    fitQ ed := by
  obtain ⟨pq, d, dp, dq, a, b, u, sq, ta, st, h1, h2, h3, h4, h5, h6, h7, -, -, h8, h9, h10, h11, h12, vp, vq, vpq, -, vdp, vdq, va, vb, vro, vsq, -, -⟩ := derivative_law hp hq hv
  obtain ⟨e1, e2⟩ := derive_ev hp hv h3
  have fv := lim3_fit hv
  have vnil : Vp [] := ⟨by decide, Or.inl rfl, fit_nil⟩
  exact ⟨pq, d, dp, dq, a, b, u, sq, evP p v, evP dp v, ta, st, Lib.hid (fun w s t k1 k2 hL => api_mul w k1 k2 vp vq h1 hL),
    Lib.hid (fun w s k1 hL => api_derivative w k1 vpq h2 hL),
    Lib.hid (fun w s k1 hL => api_derivative w k1 vp h3 hL),
    Lib.hid (fun w s k1 hL => api_derivative w k1 vq h4 hL),
    Lib.hid (fun w s t k1 k2 hL => api_mul w k1 k2 vdp vq h5 hL),
    Lib.hid (fun w s t k1 k2 hL => api_mul w k1 k2 vp vdq h6 hL),
    Lib.hid (fun w s t k1 k2 hL => api_add w k1 k2 va vb h7 hL),
    Lib.hid (fun w s k1 hL => api_eval w k1 vp fv e1 hL),
    Lib.hid (fun w s k1 hL => api_eval w k1 vdp fv e2 hL),
    Lib.hid (fun w hL => qk (sub_r (rat_tx fit_zero) (rat_tx fv) h8 w hL)),
    Lib.hid (fun w s t k1 k2 hL => api_mul w k1 k2 vro vro h9 hL),
    Lib.hid (fun w s t k1 k2 hL => api_div w k1 k2 vp vsq h10 hL),
    Lib.hid (fun w hL => qk (mul_r (rat_tx e2.fitP) (rat_tx (subQ_fit h8)) h11 w hL)),
    Lib.hid (fun w hL => qk (add_r (rat_tx e1.fitP) (rat_tx (mulQ_fit h11)) h12 w hL)),
    Lib.hid (fun w s t k1 k2 hL => api_add w k1 k2 vnil vnil rfl hL),
    vro.2.2,
    addQ_fit h12,
    e2.fitP⟩
theorem fit1 {a : Rat} (h : fitQ a) (i : Nat) : fitQ (cf [a] i) := by
  match i with
  | 0 => exact h
  | i + 1 => exact fit_nil i
theorem fit2 {a b : Rat} (h : fitQ a) (k : fitQ b) (i : Nat) : fitQ (cf [a, b] i) := by
  match i with
  | 0 => exact h
  | i + 1 => exact fit1 k i
theorem zeros14_at {i : Nat} (h : i < 14) : ([.int .i64 0, .int .i64 0, .int .i64 0, .int .i64 0, .int .i64 0, .int .i64 0, .int .i64 0, .int .i64 0, .int .i64 0, .int .i64 0, .int .i64 0, .int .i64 0, .int .i64 0, .int .i64 0] : List Value)[i]? = some (.int .i64 0) := by
  rw [show ([.int .i64 0, .int .i64 0, .int .i64 0, .int .i64 0, .int .i64 0, .int .i64 0, .int .i64 0, .int .i64 0, .int .i64 0, .int .i64 0, .int .i64 0, .int .i64 0, .int .i64 0, .int .i64 0] : List Value) = List.replicate 14 (.int .i64 0) from rfl, List.getElem?_replicate, if_pos h]
set_option maxHeartbeats 8000000 in
set_option maxRecDepth 100000 in
theorem deriv_any {x y : Value} (w : World) (hx : Rx w x) (hy : Rx w y) (a0 a1 : Int) (hL : Laid w) :
    Calls Tryz.prog 4 #[x, y, .agg #[.int .i64 a0, .int .i64 a1]] w (RetB w true) := by
  have CX : Hid (∀ w', Below w.heap.size w w' → Laid w' → Calls Tryz.prog 7 #[x] w' (fun e w2 => ∃ l, In l ∧ RetL7 w' l e w2)) := Lib.hid (fun w' hb hL => make_any w' (hx.below hb) hL)
  have CY : Hid (∀ w', Below w.heap.size w w' → Laid w' → Calls Tryz.prog 7 #[y] w' (fun e w2 => ∃ l, In l ∧ RetL7 w' l e w2)) := Lib.hid (fun w' hb hL => make_any w' (hy.below hb) hL)
  obtain ⟨r00, r01⟩ := rem_in a0 40 (by decide) (by decide)
  obtain ⟨r10, r11⟩ := rem_in a1 5 (by decide) (by decide)
  have CM : Hid (∀ w : World, Calls Tryz.prog 13 #[.agg #[.int .i64 (a0.tmod 40), .int .i64 (a1.tmod 5)]] w (RetLim 3 w)) := Lib.hid (fun w => small_any _ _ r00 r01 r10 r11 w)
  have hw0 : IntKind.i64.wrap (a0.tmod 40) = a0.tmod 40 := IntWalk.i64_in _ ⟨r00, r01⟩
  have hw1 : IntKind.i64.wrap (a1.tmod 5) = a1.tmod 5 := IntWalk.i64_in _ ⟨r10, r11⟩
  have CS := Lib.hid (fun (w : World) (hL : Laid w) => sane_any w hL)
  have CO0 : Hid (∀ w : World, Calls Tryz.prog 17 #[.int .i64 0, .int .i64 1] w (RetR w 0)) := Lib.hid (fun w => of_any 0 1 (by decide) (by decide) (by decide) (by decide) (by decide) w)
  have CO1 : Hid (∀ w : World, Calls Tryz.prog 17 #[.int .i64 1, .int .i64 1] w (RetR w 1)) := Lib.hid (fun w => of_any 1 1 (by decide) (by decide) (by decide) (by decide) (by decide) w)
  have hB : Below w.heap.size w w := Below.refl _ _
  clear r00 r01 r10 r11
  go_enter Tryz.func4, Tryz.ntmps4
  go_upto_region 5 with (first
      | (go_at_call 6; (with_reducible refine (CS.out _ (hL.below (below1 w (.cells #[.int .i64 a0, .int .i64 a1] 34)))).mono ?_); rintro e w1 ⟨rfl, hb⟩; have hp := below_up (below1 w (.cells #[.int .i64 a0, .int .i64 a1] 34)) hb; have BT := (Blk.new w 34 [.int .i64 a0, .int .i64 a1]).below hb; replace hL := hL.below hp; replace hB := below_up hB hp; clear hb hp)
      | (go_at_call 7; (with_reducible refine (CX.out _ hB hL).mono ?_); rintro e w2 ⟨p, ip, vp, rfl, hn, hb⟩; have hp := hb; replace BT := BT.below hp; replace hL := hL.below hp; replace hB := below_up hB hp; clear hb hp; have hp1 := hn; clear hn)
      | (go_at_call 7; (with_reducible refine (CY.out _ hB hL).mono ?_); rintro e w3 ⟨q, iq, vq, rfl, hn, hb⟩; have hp := hb; replace BT := BT.below hp; replace hL := hL.below hp; replace hB := below_up hB hp; replace hp1 := Pv.below hp1 hp; clear hb hp; have hq1 := hn; clear hn; have cT_0 := BT.cell 0 (v := .int .i64 a0) rfl; have cT_1 := BT.cell 1 (v := .int .i64 a1) rfl)
      | (go_at_call 13; (with_reducible refine (CM.out _).mono ?_); rintro e w4 ⟨v, hv, rfl, hb⟩; have hp := hb; replace BT := BT.below hp; clear cT_0 cT_1; replace hL := hL.below hp; replace hB := below_up hB hp; replace hp1 := Pv.below hp1 hp; replace hq1 := Pv.below hq1 hp; clear hb hp))
  clear BT CX CY CS CM hx hy hw0 hw1
  obtain ⟨pq, d, dp, dq, a, b, u, sq, ep, ed, ta, st, C1, C2, C3, C4, C5, C6, C7, C8, C9, C10, C11, C12, C13, C14, C15, frt, fst, fed⟩ := deriv_con ip iq hv
  have hmixed : Tryz.prog.follows .mixedOrders = true := by kernel_rfl
  clear ip iq hv
  go_upto_region 14 with (first
      | (go_at_call 9; (with_reducible refine (C1.out _ _ _ (Pv.below hp1 (below1 w4 (.cells #[.string (numT (some v)), .string (denT (some v))] 36))) (Pv.below hq1 (below1 w4 (.cells #[.string (numT (some v)), .string (denT (some v))] 36))) (hL.below (below1 w4 (.cells #[.string (numT (some v)), .string (denT (some v))] 36)))).mono ?_); rintro e w5 ⟨vpq, rfl, hn, hb⟩; have hp := below_up (below1 w4 (.cells #[.string (numT (some v)), .string (denT (some v))] 36)) hb; have Bv := (Blk.new w4 36 [.string (numT (some v)), .string (denT (some v))]).below hb; replace hL := hL.below hp; replace hB := below_up hB hp; replace hp1 := Pv.below hp1 hp; replace hq1 := Pv.below hq1 hp; clear hb hp; have hpq1 := hn; clear hn)
      | (go_at_call 14; (with_reducible refine (C2.out _ _ hpq1 hL).mono ?_); rintro e w6 ⟨vd, rfl, hn, hb⟩; have hp := hb; replace Bv := Bv.below hp; replace hL := hL.below hp; replace hB := below_up hB hp; replace hp1 := Pv.below hp1 hp; replace hq1 := Pv.below hq1 hp; replace hpq1 := Pv.below hpq1 hp; clear hb hp; have hd1 := hn; clear hn)
      | (go_at_call 14; (with_reducible refine (C3.out _ _ hp1 hL).mono ?_); rintro e w7 ⟨vdp, rfl, hn, hb⟩; have hp := hb; replace Bv := Bv.below hp; replace hL := hL.below hp; replace hB := below_up hB hp; replace hp1 := Pv.below hp1 hp; replace hq1 := Pv.below hq1 hp; replace hpq1 := Pv.below hpq1 hp; replace hd1 := Pv.below hd1 hp; clear hb hp; have hdp1 := hn; clear hn)
      | (go_at_call 14; (with_reducible refine (C4.out _ _ hq1 hL).mono ?_); rintro e w8 ⟨vdq, rfl, hn, hb⟩; have hp := hb; replace Bv := Bv.below hp; replace hL := hL.below hp; replace hB := below_up hB hp; replace hp1 := Pv.below hp1 hp; replace hq1 := Pv.below hq1 hp; replace hpq1 := Pv.below hpq1 hp; replace hd1 := Pv.below hd1 hp; replace hdp1 := Pv.below hdp1 hp; clear hb hp; have hdq1 := hn; clear hn)
      | (go_at_call 9; (with_reducible refine (C5.out _ _ _ hdp1 hq1 hL).mono ?_); rintro e w9 ⟨va, rfl, hn, hb⟩; have hp := hb; replace Bv := Bv.below hp; replace hL := hL.below hp; replace hB := below_up hB hp; replace hp1 := Pv.below hp1 hp; replace hq1 := Pv.below hq1 hp; replace hpq1 := Pv.below hpq1 hp; replace hd1 := Pv.below hd1 hp; replace hdp1 := Pv.below hdp1 hp; replace hdq1 := Pv.below hdq1 hp; clear hb hp; have ha1 := hn; clear hn)
      | (go_at_call 9; (with_reducible refine (C6.out _ _ _ hp1 hdq1 hL).mono ?_); rintro e w10 ⟨vb, rfl, hn, hb⟩; have hp := hb; replace Bv := Bv.below hp; replace hL := hL.below hp; replace hB := below_up hB hp; replace hp1 := Pv.below hp1 hp; replace hq1 := Pv.below hq1 hp; replace hpq1 := Pv.below hpq1 hp; replace hd1 := Pv.below hd1 hp; replace hdp1 := Pv.below hdp1 hp; replace hdq1 := Pv.below hdq1 hp; replace ha1 := Pv.below ha1 hp; clear hb hp; have hb1 := hn; clear hn)
      | (go_at_call 10; (with_reducible refine (C7.out _ _ _ ha1 hb1 hL).mono ?_); rintro e w11 ⟨vs, rfl, hn, hb⟩; have hp := hb; replace Bv := Bv.below hp; replace hL := hL.below hp; replace hB := below_up hB hp; replace hp1 := Pv.below hp1 hp; replace hq1 := Pv.below hq1 hp; replace hpq1 := Pv.below hpq1 hp; replace hd1 := Pv.below hd1 hp; replace hdp1 := Pv.below hdp1 hp; replace hdq1 := Pv.below hdq1 hp; replace ha1 := Pv.below ha1 hp; replace hb1 := Pv.below hb1 hp; clear hb hp; have hs1 := hn; clear hn; have cv_0 := Bv.cell 0 (v := .string (numT (some v))) rfl; have cv_1 := Bv.cell 1 (v := .string (denT (some v))) rfl)
      | (go_at_call 15; (with_reducible refine (C8.out _ _ hp1 hL).mono ?_); rintro e w12 ⟨rfl, hb⟩; have hp := hb; replace Bv := Bv.below hp; clear cv_0 cv_1; replace hL := hL.below hp; replace hB := below_up hB hp; replace hp1 := Pv.below hp1 hp; replace hq1 := Pv.below hq1 hp; replace hpq1 := Pv.below hpq1 hp; replace hd1 := Pv.below hd1 hp; replace hdp1 := Pv.below hdp1 hp; replace hdq1 := Pv.below hdq1 hp; replace ha1 := Pv.below ha1 hp; replace hb1 := Pv.below hb1 hp; replace hs1 := Pv.below hs1 hp; clear hb hp; have cv_0 := (Bv.below (below1 w12 (.cells #[.string (numT (some ep)), .string (denT (some ep))] 36))).cell 0 (v := .string (numT (some v))) rfl; have cv_1 := (Bv.below (below1 w12 (.cells #[.string (numT (some ep)), .string (denT (some ep))] 36))).cell 1 (v := .string (denT (some v))) rfl)
      | (go_at_call 15; (with_reducible refine (C9.out _ _ (Pv.below hdp1 (below1 w12 (.cells #[.string (numT (some ep)), .string (denT (some ep))] 36))) (hL.below (below1 w12 (.cells #[.string (numT (some ep)), .string (denT (some ep))] 36)))).mono ?_); rintro e w13 ⟨rfl, hb⟩; have hp := below_up (below1 w12 (.cells #[.string (numT (some ep)), .string (denT (some ep))] 36)) hb; replace Bv := Bv.below hp; have BEp := (Blk.new w12 36 [.string (numT (some ep)), .string (denT (some ep))]).below hb; clear cv_0 cv_1; replace hL := hL.below hp; replace hB := below_up hB hp; replace hp1 := Pv.below hp1 hp; replace hq1 := Pv.below hq1 hp; replace hpq1 := Pv.below hpq1 hp; replace hd1 := Pv.below hd1 hp; replace hdp1 := Pv.below hdp1 hp; replace hdq1 := Pv.below hdq1 hp; replace ha1 := Pv.below ha1 hp; replace hb1 := Pv.below hb1 hp; replace hs1 := Pv.below hs1 hp; clear hb hp))
  go_cut [29, 30] (fun s29 s30 wx => ∃ g : Nat, BoxOut (w13.alloc (.cells #[.string (numT (some ed)), .string (denT (some ed))] 36)) g 36 [.string (numT (some (-v))), .string (denT (some (-v)))] s29 wx ∧ s30 = .int .i64 0)
  case first =>
    have qv_0 := Bv.cell 0 (v := .string (numT (some v))) rfl
    have qv_1 := Bv.cell 1 (v := .string (denT (some v))) rfl
    have ev : w13.heap.size + 1 ≠ w4.heap.size := by have := Bv.lt; omega
    have hZ : Below (w13.alloc (.cells #[.string (numT (some ed)), .string (denT (some ed))] 36)).heap.size (w13.alloc (.cells #[.string (numT (some ed)), .string (denT (some ed))] 36)) (w13.alloc (.cells #[.string (numT (some ed)), .string (denT (some ed))] 36)).drew := (Below.refl _ _).drew
    have hLd := (hL.below (below1 w13 (.cells #[.string (numT (some ed)), .string (denT (some ed))] 36))).below hZ
    replace Bv := (Bv.below (below1 w13 (.cells #[.string (numT (some ed)), .string (denT (some ed))] 36))).below hZ
    replace BEp := (BEp.below (below1 w13 (.cells #[.string (numT (some ed)), .string (denT (some ed))] 36))).below hZ
    have BEdp := (Blk.new w13 36 [.string (numT (some ed)), .string (denT (some ed))]).below hZ
    have cv_0 := Bv.cell 0 (v := .string (numT (some v))) rfl
    have cv_1 := Bv.cell 1 (v := .string (denT (some v))) rfl
    go_region_held3 (fun w' => w'.cell? ⟨w4.heap.size, 0, none⟩ = some (.string (numT (some v))) ∧ w'.cell? ⟨w4.heap.size, 1, none⟩ = some (.string (denT (some v)))) (go_keep) (first
        | (go_at_call 17; (refine (CO0.out _).mono ?_); rintro e wN ⟨rfl, hb⟩; (try (replace BN := BN.below hb)); (try first | (have BN := Blk.below ((Blk.new2 w13 (.cells #[.string (numT (some ed)), .string (denT (some ed))] 36) 36 [.string ⟨#[]⟩, .string ⟨#[]⟩]).below (Below.refl _ _).drew) hb; have hg : (w13.alloc (.cells #[.string (numT (some ed)), .string (denT (some ed))] 36)).heap.size ≤ w13.heap.size + 1 := (by simp)) | (have BN := Blk.below (Blk.new _ 36 [.string ⟨#[]⟩, .string ⟨#[]⟩]) hb; have hg := hZ.size; have dv := Nat.ne_of_gt Bv.lt)); have hZ := (by first | exact below_up hZ hb | exact below_up (below_up hZ (below1 _ _)) hb : Below (w13.alloc (.cells #[.string (numT (some ed)), .string (denT (some ed))] 36)).heap.size (w13.alloc (.cells #[.string (numT (some ed)), .string (denT (some ed))] 36)) wN); have hLd := (by first | exact hLd.below hb | exact (hLd.below (below1 _ _)).below hb : Laid wN); have Bv := (by first | exact Bv.below hb | exact (Bv.alloc _).below hb : Blk wN w4.heap.size 36 [.string (numT (some v)), .string (denT (some v))]); have cv_0 := Bv.cell 0 (v := .string (numT (some v))) rfl; have cv_1 := Bv.cell 1 (v := .string (denT (some v))) rfl; (try (have n0 := BN.cell 0 (v := .string ⟨#[]⟩) rfl; have m0 := BN.frozen 0; have n1 := BN.cell 1 (v := .string ⟨#[]⟩) rfl; have m1 := BN.frozen 1)))
        | (go_at_call 16; (refine (C10.out _ (by first | exact hLd | exact hLd.below (below1 _ _))).mono ?_); rintro e wN ⟨rfl, hb⟩; (try (replace BN := BN.below hb)); (try first | (have BN := Blk.below ((Blk.new2 w13 (.cells #[.string (numT (some ed)), .string (denT (some ed))] 36) 36 [.string ⟨#[]⟩, .string ⟨#[]⟩]).below (Below.refl _ _).drew) hb; have hg : (w13.alloc (.cells #[.string (numT (some ed)), .string (denT (some ed))] 36)).heap.size ≤ w13.heap.size + 1 := (by simp)) | (have BN := Blk.below (Blk.new _ 36 [.string ⟨#[]⟩, .string ⟨#[]⟩]) hb; have hg := hZ.size; have dv := Nat.ne_of_gt Bv.lt)); have hZ := (by first | exact below_up hZ hb | exact below_up (below_up hZ (below1 _ _)) hb : Below (w13.alloc (.cells #[.string (numT (some ed)), .string (denT (some ed))] 36)).heap.size (w13.alloc (.cells #[.string (numT (some ed)), .string (denT (some ed))] 36)) wN); have hLd := (by first | exact hLd.below hb | exact (hLd.below (below1 _ _)).below hb : Laid wN); have Bv := (by first | exact Bv.below hb | exact (Bv.alloc _).below hb : Blk wN w4.heap.size 36 [.string (numT (some v)), .string (denT (some v))]); have cv_0 := Bv.cell 0 (v := .string (numT (some v))) rfl; have cv_1 := Bv.cell 1 (v := .string (denT (some v))) rfl; (try (have n0 := BN.cell 0 (v := .string ⟨#[]⟩) rfl; have m0 := BN.frozen 0; have n1 := BN.cell 1 (v := .string ⟨#[]⟩) rfl; have m1 := BN.frozen 1))))
    all_goals go_wp2_with fail
    all_goals go_meet
    all_goals first
        | exact ⟨_, ⟨rfl, ((BN.set 0 (.string (numT (some (-v))))).set 1 (.string (denT (some (-v))))), ((hZ.setCell hg (.string (numT (some (-v))))).setCell hg (.string (denT (some (-v)))))⟩, rfl⟩
        | exact ⟨_, ⟨rfl, Blk.new _ 36 [.string (numT (some (-v))), .string (denT (some (-v)))], below_up hZ (below1 _ _)⟩, rfl⟩
  case rest =>
    obtain ⟨w14, hnw⟩ : ∃ x, x = wc := ⟨_, rfl⟩
    subst hnw
    obtain ⟨gm, ⟨rfl, Bm, hp⟩, rfl⟩ := hcut
    have hq := below_up (below1 w13 (.cells #[.string (numT (some ed)), .string (denT (some ed))] 36)) hp
    replace Bv := Bv.below hq
    replace BEp := BEp.below hq
    have BEdp := (Blk.new w13 36 [.string (numT (some ed)), .string (denT (some ed))]).below hp
    replace hL := hL.below hq; replace hB := below_up hB hq; replace hp1 := Pv.below hp1 hq; replace hq1 := Pv.below hq1 hq; replace hpq1 := Pv.below hpq1 hq; replace hd1 := Pv.below hd1 hq; replace hdp1 := Pv.below hdp1 hq; replace hdq1 := Pv.below hdq1 hq; replace ha1 := Pv.below ha1 hq; replace hb1 := Pv.below hb1 hq; replace hs1 := Pv.below hs1 hq; clear hp hq
    go_upto_region 15 with fail
    go_cut [31] (fun s31 wx => Pv wx s31 [-v, 1] ∧ Below w14.heap.size w14 wx)
    case first =>
      have hZ : Below w14.heap.size w14 w14.drew := (Below.refl _ _).drew
      have hLd := hL.below hZ
      replace Bm := Bm.below hZ
      have cm_0 := Bm.cell 0 (v := .string (numT (some (-v)))) rfl
      have cm_1 := Bm.cell 1 (v := .string (denT (some (-v)))) rfl
      go_region_held3 (fun w' => w'.cell? ⟨gm, 0, none⟩ = some (.string (numT (some (-v)))) ∧ w'.cell? ⟨gm, 1, none⟩ = some (.string (denT (some (-v))))) (go_keep) (first
          | (go_at_call 17; (refine (CO1.out _).mono ?_); rintro e wN ⟨rfl, hb⟩; have hZ := below_up hZ hb; have hLd := hLd.below hb; have Bm := Bm.below hb; have cm_0 := Bm.cell 0 (v := .string (numT (some (-v)))) rfl; have cm_1 := Bm.cell 1 (v := .string (denT (some (-v)))) rfl))
      all_goals go_wp2_with fail
      all_goals go_meet
      all_goals exact ⟨Blk.pvAll (l := [-v, 1]) (Blk.new _ 36 (flat [-v, 1])) 2 (Nat.le_refl _) (by simp) frt, below_up hZ (below1 _ _)⟩
    case rest =>
      obtain ⟨w15, hnw⟩ : ∃ x, x = wc := ⟨_, rfl⟩
      subst hnw
      obtain ⟨hn, hq⟩ := hcut
      replace Bv := Bv.below hq
      replace BEp := BEp.below hq
      replace BEdp := BEdp.below hq
      replace Bm := Bm.below hq
      replace hL := hL.below hq; replace hB := below_up hB hq; replace hp1 := Pv.below hp1 hq; replace hq1 := Pv.below hq1 hq; replace hpq1 := Pv.below hpq1 hq; replace hd1 := Pv.below hd1 hq; replace hdp1 := Pv.below hdp1 hq; replace hdq1 := Pv.below hdq1 hq; replace ha1 := Pv.below ha1 hq; replace hb1 := Pv.below hb1 hq; replace hs1 := Pv.below hs1 hq; have hro1 := hn; clear hn hq
      go_wp2_with (first
          | (go_at_call 9; (with_reducible refine (C11.out _ _ _ hro1 hro1 hL).mono ?_); rintro e w16 ⟨vsq, rfl, hn, hb⟩; have hp := hb; replace Bv := Bv.below hp; replace BEp := BEp.below hp; replace BEdp := BEdp.below hp; replace Bm := Bm.below hp; replace hL := hL.below hp; replace hB := below_up hB hp; replace hp1 := Pv.below hp1 hp; replace hq1 := Pv.below hq1 hp; replace hpq1 := Pv.below hpq1 hp; replace hd1 := Pv.below hd1 hp; replace hdp1 := Pv.below hdp1 hp; replace hdq1 := Pv.below hdq1 hp; replace ha1 := Pv.below ha1 hp; replace hb1 := Pv.below hb1 hp; replace hs1 := Pv.below hs1 hp; replace hro1 := Pv.below hro1 hp; clear hb hp; have hsq1 := hn; clear hn)
          | (go_at_call 8; (with_reducible refine (C12.out _ _ _ hp1 hsq1 hL).mono ?_); rintro e w17 ⟨vu, vre, rfl, hn2, hn, hb⟩; have hp := hb; replace Bv := Bv.below hp; replace BEp := BEp.below hp; replace BEdp := BEdp.below hp; replace Bm := Bm.below hp; replace hL := hL.below hp; replace hB := below_up hB hp; replace hp1 := Pv.below hp1 hp; replace hq1 := Pv.below hq1 hp; replace hpq1 := Pv.below hpq1 hp; replace hd1 := Pv.below hd1 hp; replace hdp1 := Pv.below hdp1 hp; replace hdq1 := Pv.below hdq1 hp; replace ha1 := Pv.below ha1 hp; replace hb1 := Pv.below hb1 hp; replace hs1 := Pv.below hs1 hp; replace hro1 := Pv.below hro1 hp; replace hsq1 := Pv.below hsq1 hp; clear hb hp; have hre1 := hn; clear hn; clear hn2; have cEdp_0 := BEdp.cell 0 (v := .string (numT (some ed))) rfl; have cEdp_1 := BEdp.cell 1 (v := .string (denT (some ed))) rfl; have cm_0 := Bm.cell 0 (v := .string (numT (some (-v)))) rfl; have cm_1 := Bm.cell 1 (v := .string (denT (some (-v)))) rfl)
          | (go_at_call 18; (with_reducible refine (C13.out _ hL).mono ?_); rintro e w18 ⟨rfl, hb⟩; have hp := hb; replace Bv := Bv.below hp; replace BEp := BEp.below hp; replace BEdp := BEdp.below hp; replace Bm := Bm.below hp; clear cEdp_0 cEdp_1 cm_0 cm_1; replace hL := hL.below hp; replace hB := below_up hB hp; replace hp1 := Pv.below hp1 hp; replace hq1 := Pv.below hq1 hp; replace hpq1 := Pv.below hpq1 hp; replace hd1 := Pv.below hd1 hp; replace hdp1 := Pv.below hdp1 hp; replace hdq1 := Pv.below hdq1 hp; replace ha1 := Pv.below ha1 hp; replace hb1 := Pv.below hb1 hp; replace hs1 := Pv.below hs1 hp; replace hro1 := Pv.below hro1 hp; replace hsq1 := Pv.below hsq1 hp; replace hre1 := Pv.below hre1 hp; clear hb hp; have cEp_0 := (BEp.below (below1 w18 (.cells #[.string (numT (some ta)), .string (denT (some ta))] 36))).cell 0 (v := .string (numT (some ep))) rfl; have cEp_1 := (BEp.below (below1 w18 (.cells #[.string (numT (some ta)), .string (denT (some ta))] 36))).cell 1 (v := .string (denT (some ep))) rfl)
          | (go_at_call 19; (with_reducible refine (C14.out _ (hL.below (below1 w18 (.cells #[.string (numT (some ta)), .string (denT (some ta))] 36)))).mono ?_); rintro e w19 ⟨rfl, hb⟩; have hp := below_up (below1 w18 (.cells #[.string (numT (some ta)), .string (denT (some ta))] 36)) hb; replace Bv := Bv.below hp; replace BEp := BEp.below hp; replace BEdp := BEdp.below hp; replace Bm := Bm.below hp; have Bta := (Blk.new w18 36 [.string (numT (some ta)), .string (denT (some ta))]).below hb; clear cEp_0 cEp_1; replace hL := hL.below hp; replace hB := below_up hB hp; replace hp1 := Pv.below hp1 hp; replace hq1 := Pv.below hq1 hp; replace hpq1 := Pv.below hpq1 hp; replace hd1 := Pv.below hd1 hp; replace hdp1 := Pv.below hdp1 hp; replace hdq1 := Pv.below hdq1 hp; replace ha1 := Pv.below ha1 hp; replace hb1 := Pv.below hb1 hp; replace hs1 := Pv.below hs1 hp; replace hro1 := Pv.below hro1 hp; replace hsq1 := Pv.below hsq1 hp; replace hre1 := Pv.below hre1 hp; clear hb hp))
      have BZ := (Blk.new2 w19 (.cells #[.string (numT (some st)), .string (denT (some st))] 36) 26 [.int .i64 0, .int .i64 0, .int .i64 0, .int .i64 0, .int .i64 0, .int .i64 0, .int .i64 0, .int .i64 0, .int .i64 0, .int .i64 0, .int .i64 0, .int .i64 0, .int .i64 0, .int .i64 0])
      go_loopg [159] 14 (fun kx s159 wr => ∃ i : Nat, s159 = .int .i64 i ∧ i ≤ 14 ∧ 14 ≤ kx + i ∧ wr = ((w19.alloc (.cells #[.string (numT (some st)), .string (denT (some st))] 36)).alloc (.cells #[.int .i64 0, .int .i64 0, .int .i64 0, .int .i64 0, .int .i64 0, .int .i64 0, .int .i64 0, .int .i64 0, .int .i64 0, .int .i64 0, .int .i64 0, .int .i64 0, .int .i64 0, .int .i64 0] 26)))
      case atStart => exact ⟨0, rfl, by omega, by omega, rfl⟩
      case round =>
        obtain ⟨i, rfl, hi, hkx, rfl⟩ := hrel
        by_cases hg : i < 14
        · have hgi : (i : Int) < 14 := by omega
          have cz := BZ.cell i (v := .int .i64 0) (zeros14_at hg)
          have hw1 : IntKind.i64.wrap ((i : Int) + 1) = (i : Int) + 1 := IntWalk.i64_in _ (by omega)
          go_wp2_with fail
          all_goals go_roundg (14 - (i + 1))
          all_goals first | omega | exact ⟨i + 1, by go_num, by omega, by omega, rfl⟩
        · obtain rfl : i = 14 := by omega
          clear BZ
          clear Bv Bm Bta C1 C2 C3 C4 C5 C6 C7 C8 C9 C10 C11 C12 C13 C14 frt
          by_cases h0 : ed = 0
          · subst h0
            by_cases h1 : st = 0
            · skip
              subst h1
              rw [show trimP [0, 0] = [] from rfl] at hre1
              go_upto_region 27 with (first
                  | (go_at_call 10; (refine (C15.out _ _ _ (Blk.pvAll (l := []) (Blk.new3 w19 (.cells #[.string (numT (some 0)), .string (denT (some 0))] 36) (.cells #[.int .i64 0, .int .i64 0, .int .i64 0, .int .i64 0, .int .i64 0, .int .i64 0, .int .i64 0, .int .i64 0, .int .i64 0, .int .i64 0, .int .i64 0, .int .i64 0, .int .i64 0, .int .i64 0] 26) 36 []) 0 (Nat.le_refl _) (by decide) fit_nil) (Pv.nil _) (hL.below (below_up (below_up (below1 w19 (.cells #[.string (numT (some 0)), .string (denT (some 0))] 36)) (below1 ((w19.alloc (.cells #[.string (numT (some 0)), .string (denT (some 0))] 36))) (.cells #[.int .i64 0, .int .i64 0, .int .i64 0, .int .i64 0, .int .i64 0, .int .i64 0, .int .i64 0, .int .i64 0, .int .i64 0, .int .i64 0, .int .i64 0, .int .i64 0, .int .i64 0, .int .i64 0] 26))) (below1 (((w19.alloc (.cells #[.string (numT (some 0)), .string (denT (some 0))] 36)).alloc (.cells #[.int .i64 0, .int .i64 0, .int .i64 0, .int .i64 0, .int .i64 0, .int .i64 0, .int .i64 0, .int .i64 0, .int .i64 0, .int .i64 0, .int .i64 0, .int .i64 0, .int .i64 0, .int .i64 0] 26))) (.cells #[] 36))))).mono ?_); rintro e w20 ⟨vw, rfl, hn, hb⟩; have hp := below_up (below_up (below_up (below1 w19 (.cells #[.string (numT (some 0)), .string (denT (some 0))] 36)) (below1 ((w19.alloc (.cells #[.string (numT (some 0)), .string (denT (some 0))] 36))) (.cells #[.int .i64 0, .int .i64 0, .int .i64 0, .int .i64 0, .int .i64 0, .int .i64 0, .int .i64 0, .int .i64 0, .int .i64 0, .int .i64 0, .int .i64 0, .int .i64 0, .int .i64 0, .int .i64 0] 26))) (below1 (((w19.alloc (.cells #[.string (numT (some 0)), .string (denT (some 0))] 36)).alloc (.cells #[.int .i64 0, .int .i64 0, .int .i64 0, .int .i64 0, .int .i64 0, .int .i64 0, .int .i64 0, .int .i64 0, .int .i64 0, .int .i64 0, .int .i64 0, .int .i64 0, .int .i64 0, .int .i64 0] 26))) (.cells #[] 36))) hb; replace BEp := BEp.below hp; replace BEdp := BEdp.below hp; have Bst := (((Blk.new w19 36 [.string (numT (some 0)), .string (denT (some 0))]).alloc _).alloc _).below hb; have BZ := ((Blk.new2 w19 (.cells #[.string (numT (some 0)), .string (denT (some 0))] 36) 26 [.int .i64 0, .int .i64 0, .int .i64 0, .int .i64 0, .int .i64 0, .int .i64 0, .int .i64 0, .int .i64 0, .int .i64 0, .int .i64 0, .int .i64 0, .int .i64 0, .int .i64 0, .int .i64 0]).alloc _).below hb; have BN := (Blk.new3 w19 (.cells #[.string (numT (some 0)), .string (denT (some 0))] 36) (.cells #[.int .i64 0, .int .i64 0, .int .i64 0, .int .i64 0, .int .i64 0, .int .i64 0, .int .i64 0, .int .i64 0, .int .i64 0, .int .i64 0, .int .i64 0, .int .i64 0, .int .i64 0, .int .i64 0] 26) 36 []).below hb; replace hL := hL.below hp; replace hB := below_up hB hp; replace hp1 := Pv.below hp1 hp; replace hq1 := Pv.below hq1 hp; replace hpq1 := Pv.below hpq1 hp; replace hd1 := Pv.below hd1 hp; replace hdp1 := Pv.below hdp1 hp; replace hdq1 := Pv.below hdq1 hp; replace ha1 := Pv.below ha1 hp; replace hb1 := Pv.below hb1 hp; replace hs1 := Pv.below hs1 hp; replace hro1 := Pv.below hro1 hp; replace hsq1 := Pv.below hsq1 hp; replace hre1 := Pv.below hre1 hp; clear hb hp; have hwa1 := hn; clear hn))
              clear BN BZ
              have hZ := (Below.refl w20.heap.size w20).drew
              replace BEp := BEp.below hZ
              replace BEdp := BEdp.below hZ
              replace Bst := Bst.below hZ
              have cst_0 := Bst.cell 0 (v := .string (numT (some 0))) rfl
              have cst_1 := Bst.cell 1 (v := .string (denT (some 0))) rfl
              have cEdp_0 := BEdp.cell 0 (v := .string (numT (some 0))) rfl
              have cEdp_1 := BEdp.cell 1 (v := .string (denT (some 0))) rfl
              go_region_held3 (fun w' => w'.cell? ⟨w19.heap.size, 0, none⟩ = some (.string (numT (some 0))) ∧ w'.cell? ⟨w19.heap.size, 1, none⟩ = some (.string (denT (some 0))) ∧ w'.cell? ⟨w13.heap.size, 0, none⟩ = some (.string (numT (some 0))) ∧ w'.cell? ⟨w13.heap.size, 1, none⟩ = some (.string (denT (some 0)))) (go_keep) (first
                  | (go_at_call 17; (with_reducible refine (CO0.out _).mono ?_); rintro e wN ⟨rfl, hb⟩; have hZ := below_up hZ hb; have BEp := BEp.below hb; have BEdp := BEdp.below hb; have Bst := Bst.below hb; have cst_0 := Bst.cell 0 (v := .string (numT (some 0))) rfl; have cst_1 := Bst.cell 1 (v := .string (denT (some 0))) rfl; have cEdp_0 := BEdp.cell 0 (v := .string (numT (some 0))) rfl; have cEdp_1 := BEdp.cell 1 (v := .string (denT (some 0))) rfl))
              all_goals (replace hL := hL.below hZ; replace hB := below_up hB hZ; replace hp1 := Pv.below hp1 hZ; replace hq1 := Pv.below hq1 hZ; replace hpq1 := Pv.below hpq1 hZ; replace hd1 := Pv.below hd1 hZ; replace hdp1 := Pv.below hdp1 hZ; replace hdq1 := Pv.below hdq1 hZ; replace ha1 := Pv.below ha1 hZ; replace hb1 := Pv.below hb1 hZ; replace hs1 := Pv.below hs1 hZ; replace hro1 := Pv.below hro1 hZ; replace hsq1 := Pv.below hsq1 hZ; replace hre1 := Pv.below hre1 hZ; replace hwa1 := Pv.below hwa1 hZ; clear hZ)
              all_goals go_wp2_with (first
                  | (go_at_call 11; (with_reducible refine (lsame_any _ hd1 hs1).mono ?_); rintro e w21 ⟨rfl, hb⟩; have hp := hb; replace BEp := BEp.below hp; replace BEdp := BEdp.below hp; replace Bst := Bst.below hp; clear cst_0 cst_1 cEdp_0 cEdp_1; replace hL := hL.below hp; replace hB := below_up hB hp; replace hp1 := Pv.below hp1 hp; replace hq1 := Pv.below hq1 hp; replace hpq1 := Pv.below hpq1 hp; replace hd1 := Pv.below hd1 hp; replace hdp1 := Pv.below hdp1 hp; replace hdq1 := Pv.below hdq1 hp; replace ha1 := Pv.below ha1 hp; replace hb1 := Pv.below hb1 hp; replace hs1 := Pv.below hs1 hp; replace hro1 := Pv.below hro1 hp; replace hsq1 := Pv.below hsq1 hp; replace hre1 := Pv.below hre1 hp; replace hwa1 := Pv.below hwa1 hp; clear hb hp)
                  | (go_at_call 11; (refine (lsame_any _ hre1 hwa1).mono ?_); rintro e w22 ⟨rfl, hb⟩; have hp := hb; replace BEp := BEp.below hp; replace BEdp := BEdp.below hp; replace Bst := Bst.below hp; replace hL := hL.below hp; replace hB := below_up hB hp; replace hp1 := Pv.below hp1 hp; replace hq1 := Pv.below hq1 hp; replace hpq1 := Pv.below hpq1 hp; replace hd1 := Pv.below hd1 hp; replace hdp1 := Pv.below hdp1 hp; replace hdq1 := Pv.below hdq1 hp; replace ha1 := Pv.below ha1 hp; replace hb1 := Pv.below hb1 hp; replace hs1 := Pv.below hs1 hp; replace hro1 := Pv.below hro1 hp; replace hsq1 := Pv.below hsq1 hp; replace hre1 := Pv.below hre1 hp; replace hwa1 := Pv.below hwa1 hp; clear hb hp))
              all_goals go_ret
              all_goals exact ⟨rfl, hB⟩
            · skip
              have hzs := num_zero fst h1
              rw [show trimP [st, 0] = [st] from ((trim_snoc0 [st]).trans (trim_snoc [] h1))] at hre1
              go_upto_region 27 with (first
                  | (go_at_call 10; (refine (C15.out _ _ _ (Blk.pvAll (l := []) (Blk.new3 w19 (.cells #[.string (numT (some st)), .string (denT (some st))] 36) (.cells #[.int .i64 0, .int .i64 0, .int .i64 0, .int .i64 0, .int .i64 0, .int .i64 0, .int .i64 0, .int .i64 0, .int .i64 0, .int .i64 0, .int .i64 0, .int .i64 0, .int .i64 0, .int .i64 0] 26) 36 []) 0 (Nat.le_refl _) (by decide) fit_nil) (Pv.nil _) (hL.below (below_up (below_up (below1 w19 (.cells #[.string (numT (some st)), .string (denT (some st))] 36)) (below1 ((w19.alloc (.cells #[.string (numT (some st)), .string (denT (some st))] 36))) (.cells #[.int .i64 0, .int .i64 0, .int .i64 0, .int .i64 0, .int .i64 0, .int .i64 0, .int .i64 0, .int .i64 0, .int .i64 0, .int .i64 0, .int .i64 0, .int .i64 0, .int .i64 0, .int .i64 0] 26))) (below1 (((w19.alloc (.cells #[.string (numT (some st)), .string (denT (some st))] 36)).alloc (.cells #[.int .i64 0, .int .i64 0, .int .i64 0, .int .i64 0, .int .i64 0, .int .i64 0, .int .i64 0, .int .i64 0, .int .i64 0, .int .i64 0, .int .i64 0, .int .i64 0, .int .i64 0, .int .i64 0] 26))) (.cells #[] 36))))).mono ?_); rintro e w20 ⟨vw, rfl, hn, hb⟩; have hp := below_up (below_up (below_up (below1 w19 (.cells #[.string (numT (some st)), .string (denT (some st))] 36)) (below1 ((w19.alloc (.cells #[.string (numT (some st)), .string (denT (some st))] 36))) (.cells #[.int .i64 0, .int .i64 0, .int .i64 0, .int .i64 0, .int .i64 0, .int .i64 0, .int .i64 0, .int .i64 0, .int .i64 0, .int .i64 0, .int .i64 0, .int .i64 0, .int .i64 0, .int .i64 0] 26))) (below1 (((w19.alloc (.cells #[.string (numT (some st)), .string (denT (some st))] 36)).alloc (.cells #[.int .i64 0, .int .i64 0, .int .i64 0, .int .i64 0, .int .i64 0, .int .i64 0, .int .i64 0, .int .i64 0, .int .i64 0, .int .i64 0, .int .i64 0, .int .i64 0, .int .i64 0, .int .i64 0] 26))) (.cells #[] 36))) hb; replace BEp := BEp.below hp; replace BEdp := BEdp.below hp; have Bst := (((Blk.new w19 36 [.string (numT (some st)), .string (denT (some st))]).alloc _).alloc _).below hb; have BZ := ((Blk.new2 w19 (.cells #[.string (numT (some st)), .string (denT (some st))] 36) 26 [.int .i64 0, .int .i64 0, .int .i64 0, .int .i64 0, .int .i64 0, .int .i64 0, .int .i64 0, .int .i64 0, .int .i64 0, .int .i64 0, .int .i64 0, .int .i64 0, .int .i64 0, .int .i64 0]).alloc _).below hb; have BN := (Blk.new3 w19 (.cells #[.string (numT (some st)), .string (denT (some st))] 36) (.cells #[.int .i64 0, .int .i64 0, .int .i64 0, .int .i64 0, .int .i64 0, .int .i64 0, .int .i64 0, .int .i64 0, .int .i64 0, .int .i64 0, .int .i64 0, .int .i64 0, .int .i64 0, .int .i64 0] 26) 36 []).below hb; replace hL := hL.below hp; replace hB := below_up hB hp; replace hp1 := Pv.below hp1 hp; replace hq1 := Pv.below hq1 hp; replace hpq1 := Pv.below hpq1 hp; replace hd1 := Pv.below hd1 hp; replace hdp1 := Pv.below hdp1 hp; replace hdq1 := Pv.below hdq1 hp; replace ha1 := Pv.below ha1 hp; replace hb1 := Pv.below hb1 hp; replace hs1 := Pv.below hs1 hp; replace hro1 := Pv.below hro1 hp; replace hsq1 := Pv.below hsq1 hp; replace hre1 := Pv.below hre1 hp; clear hb hp; have hwa1 := hn; clear hn))
              clear BN BZ
              have hZ := (Below.refl w20.heap.size w20).drew
              replace BEp := BEp.below hZ
              replace BEdp := BEdp.below hZ
              replace Bst := Bst.below hZ
              have cst_0 := Bst.cell 0 (v := .string (numT (some st))) rfl
              have cst_1 := Bst.cell 1 (v := .string (denT (some st))) rfl
              have cEdp_0 := BEdp.cell 0 (v := .string (numT (some 0))) rfl
              have cEdp_1 := BEdp.cell 1 (v := .string (denT (some 0))) rfl
              go_region_with (first
                  | (go_at_call 17; (with_reducible refine (CO0.out _).mono ?_); rintro e wN ⟨rfl, hb⟩; have hZ := below_up hZ hb; have BEp := BEp.below hb; have BEdp := BEdp.below hb; have Bst := Bst.below hb; have cst_0 := Bst.cell 0 (v := .string (numT (some st))) rfl; have cst_1 := Bst.cell 1 (v := .string (denT (some st))) rfl; have cEdp_0 := BEdp.cell 0 (v := .string (numT (some 0))) rfl; have cEdp_1 := BEdp.cell 1 (v := .string (denT (some 0))) rfl))
              all_goals (replace hL := hL.below hZ; replace hB := below_up hB hZ; replace hp1 := Pv.below hp1 hZ; replace hq1 := Pv.below hq1 hZ; replace hpq1 := Pv.below hpq1 hZ; replace hd1 := Pv.below hd1 hZ; replace hdp1 := Pv.below hdp1 hZ; replace hdq1 := Pv.below hdq1 hZ; replace ha1 := Pv.below ha1 hZ; replace hb1 := Pv.below hb1 hZ; replace hs1 := Pv.below hs1 hZ; replace hro1 := Pv.below hro1 hZ; replace hsq1 := Pv.below hsq1 hZ; replace hre1 := Pv.below hre1 hZ; replace hwa1 := Pv.below hwa1 hZ; clear hZ)
              all_goals go_wp2_with fail
              all_goals
                have hZ := (below1 wN (.cells #[.string (numT (some st)), .string (denT (some st)), .string (numT (some 0)), .string (denT (some 0))] 36)).drew
                replace BEp := BEp.below hZ
                replace BEdp := BEdp.below hZ
                replace Bst := Bst.below hZ
                have BN2 := (Blk.new wN 36 [.string (numT (some st)), .string (denT (some st)), .string (numT (some 0)), .string (denT (some 0))]).below (Below.refl (wN.alloc (.cells #[.string (numT (some st)), .string (denT (some st)), .string (numT (some 0)), .string (denT (some 0))] 36)).heap.size (wN.alloc (.cells #[.string (numT (some st)), .string (denT (some st)), .string (numT (some 0)), .string (denT (some 0))] 36))).drew
                clear cst_0 cst_1 cEdp_0 cEdp_1
                have cEdp_0 := BEdp.cell 0 (v := .string (numT (some 0))) rfl
                have cEdp_1 := BEdp.cell 1 (v := .string (denT (some 0))) rfl
                have cst_0 := Bst.cell 0 (v := .string (numT (some st))) rfl
                have cst_1 := Bst.cell 1 (v := .string (denT (some st))) rfl
                go_region_held3 (fun w' => w'.cell? ⟨w13.heap.size, 0, none⟩ = some (.string (numT (some 0))) ∧ w'.cell? ⟨w13.heap.size, 1, none⟩ = some (.string (denT (some 0))) ∧ w'.cell? ⟨w19.heap.size, 0, none⟩ = some (.string (numT (some st))) ∧ w'.cell? ⟨w19.heap.size, 1, none⟩ = some (.string (denT (some st)))) (go_keep) (first
                  | (go_at_call 17; (with_reducible refine (CO0.out _).mono ?_); rintro e wN ⟨rfl, hb⟩; have hZ := below_up hZ hb; have BEp := BEp.below hb; have BEdp := BEdp.below hb; have Bst := Bst.below hb; have BN2 := BN2.below hb; have cEdp_0 := BEdp.cell 0 (v := .string (numT (some 0))) rfl; have cEdp_1 := BEdp.cell 1 (v := .string (denT (some 0))) rfl; have cst_0 := Bst.cell 0 (v := .string (numT (some st))) rfl; have cst_1 := Bst.cell 1 (v := .string (denT (some st))) rfl))
                all_goals (replace hL := hL.below hZ; replace hB := below_up hB hZ; replace hp1 := Pv.below hp1 hZ; replace hq1 := Pv.below hq1 hZ; replace hpq1 := Pv.below hpq1 hZ; replace hd1 := Pv.below hd1 hZ; replace hdp1 := Pv.below hdp1 hZ; replace hdq1 := Pv.below hdq1 hZ; replace ha1 := Pv.below ha1 hZ; replace hb1 := Pv.below hb1 hZ; replace hs1 := Pv.below hs1 hZ; replace hro1 := Pv.below hro1 hZ; replace hsq1 := Pv.below hsq1 hZ; replace hre1 := Pv.below hre1 hZ; replace hwa1 := Pv.below hwa1 hZ; clear hZ)
              all_goals go_wp2_with fail
              all_goals go_wp2_with (first
                  | (go_at_call 11; (with_reducible refine (lsame_any _ (Pv.below hd1 (below1 wN (.cells #[.string (numT (some st)), .string (denT (some st))] 36))) (Pv.below hs1 (below1 wN (.cells #[.string (numT (some st)), .string (denT (some st))] 36)))).mono ?_); rintro e w21 ⟨rfl, hb⟩; have hp := below_up (below1 wN (.cells #[.string (numT (some st)), .string (denT (some st))] 36)) hb; replace BEp := BEp.below hp; replace BEdp := BEdp.below hp; replace Bst := Bst.below hp; replace BN2 := BN2.below hp; have BN3 := (Blk.new wN 36 [.string (numT (some st)), .string (denT (some st))]).below hb; clear cEdp_0 cEdp_1 cst_0 cst_1; replace hL := hL.below hp; replace hB := below_up hB hp; replace hp1 := Pv.below hp1 hp; replace hq1 := Pv.below hq1 hp; replace hpq1 := Pv.below hpq1 hp; replace hd1 := Pv.below hd1 hp; replace hdp1 := Pv.below hdp1 hp; replace hdq1 := Pv.below hdq1 hp; replace ha1 := Pv.below ha1 hp; replace hb1 := Pv.below hb1 hp; replace hs1 := Pv.below hs1 hp; replace hro1 := Pv.below hro1 hp; replace hsq1 := Pv.below hsq1 hp; replace hre1 := Pv.below hre1 hp; replace hwa1 := Pv.below hwa1 hp; clear hb hp)
                  | (go_at_call 11; (refine (lsame_any _ hre1 (Blk.pvAll (l := [st]) BN3 1 (Nat.le_refl _) (by simp) (fit1 fst))).mono ?_); rintro e w22 ⟨rfl, hb⟩; have hp := hb; replace BEp := BEp.below hp; replace BEdp := BEdp.below hp; replace Bst := Bst.below hp; replace BN2 := BN2.below hp; replace BN3 := BN3.below hp; replace hL := hL.below hp; replace hB := below_up hB hp; replace hp1 := Pv.below hp1 hp; replace hq1 := Pv.below hq1 hp; replace hpq1 := Pv.below hpq1 hp; replace hd1 := Pv.below hd1 hp; replace hdp1 := Pv.below hdp1 hp; replace hdq1 := Pv.below hdq1 hp; replace ha1 := Pv.below ha1 hp; replace hb1 := Pv.below hb1 hp; replace hs1 := Pv.below hs1 hp; replace hro1 := Pv.below hro1 hp; replace hsq1 := Pv.below hsq1 hp; replace hre1 := Pv.below hre1 hp; replace hwa1 := Pv.below hwa1 hp; clear hb hp))
              all_goals go_ret
              all_goals exact ⟨rfl, hB⟩
          · by_cases h1 : st = 0
            · skip
              subst h1
              have hze := num_zero fed h0
              rw [show trimP [0, ed] = [0, ed] from (trim_snoc [0] h0)] at hre1
              go_upto_region 27 with (first
                  | (go_at_call 10; (refine (C15.out _ _ _ (Blk.pvAll (l := []) (Blk.new3 w19 (.cells #[.string (numT (some 0)), .string (denT (some 0))] 36) (.cells #[.int .i64 0, .int .i64 0, .int .i64 0, .int .i64 0, .int .i64 0, .int .i64 0, .int .i64 0, .int .i64 0, .int .i64 0, .int .i64 0, .int .i64 0, .int .i64 0, .int .i64 0, .int .i64 0] 26) 36 []) 0 (Nat.le_refl _) (by decide) fit_nil) (Pv.nil _) (hL.below (below_up (below_up (below1 w19 (.cells #[.string (numT (some 0)), .string (denT (some 0))] 36)) (below1 ((w19.alloc (.cells #[.string (numT (some 0)), .string (denT (some 0))] 36))) (.cells #[.int .i64 0, .int .i64 0, .int .i64 0, .int .i64 0, .int .i64 0, .int .i64 0, .int .i64 0, .int .i64 0, .int .i64 0, .int .i64 0, .int .i64 0, .int .i64 0, .int .i64 0, .int .i64 0] 26))) (below1 (((w19.alloc (.cells #[.string (numT (some 0)), .string (denT (some 0))] 36)).alloc (.cells #[.int .i64 0, .int .i64 0, .int .i64 0, .int .i64 0, .int .i64 0, .int .i64 0, .int .i64 0, .int .i64 0, .int .i64 0, .int .i64 0, .int .i64 0, .int .i64 0, .int .i64 0, .int .i64 0] 26))) (.cells #[] 36))))).mono ?_); rintro e w20 ⟨vw, rfl, hn, hb⟩; have hp := below_up (below_up (below_up (below1 w19 (.cells #[.string (numT (some 0)), .string (denT (some 0))] 36)) (below1 ((w19.alloc (.cells #[.string (numT (some 0)), .string (denT (some 0))] 36))) (.cells #[.int .i64 0, .int .i64 0, .int .i64 0, .int .i64 0, .int .i64 0, .int .i64 0, .int .i64 0, .int .i64 0, .int .i64 0, .int .i64 0, .int .i64 0, .int .i64 0, .int .i64 0, .int .i64 0] 26))) (below1 (((w19.alloc (.cells #[.string (numT (some 0)), .string (denT (some 0))] 36)).alloc (.cells #[.int .i64 0, .int .i64 0, .int .i64 0, .int .i64 0, .int .i64 0, .int .i64 0, .int .i64 0, .int .i64 0, .int .i64 0, .int .i64 0, .int .i64 0, .int .i64 0, .int .i64 0, .int .i64 0] 26))) (.cells #[] 36))) hb; replace BEp := BEp.below hp; replace BEdp := BEdp.below hp; have Bst := (((Blk.new w19 36 [.string (numT (some 0)), .string (denT (some 0))]).alloc _).alloc _).below hb; have BZ := ((Blk.new2 w19 (.cells #[.string (numT (some 0)), .string (denT (some 0))] 36) 26 [.int .i64 0, .int .i64 0, .int .i64 0, .int .i64 0, .int .i64 0, .int .i64 0, .int .i64 0, .int .i64 0, .int .i64 0, .int .i64 0, .int .i64 0, .int .i64 0, .int .i64 0, .int .i64 0]).alloc _).below hb; have BN := (Blk.new3 w19 (.cells #[.string (numT (some 0)), .string (denT (some 0))] 36) (.cells #[.int .i64 0, .int .i64 0, .int .i64 0, .int .i64 0, .int .i64 0, .int .i64 0, .int .i64 0, .int .i64 0, .int .i64 0, .int .i64 0, .int .i64 0, .int .i64 0, .int .i64 0, .int .i64 0] 26) 36 []).below hb; replace hL := hL.below hp; replace hB := below_up hB hp; replace hp1 := Pv.below hp1 hp; replace hq1 := Pv.below hq1 hp; replace hpq1 := Pv.below hpq1 hp; replace hd1 := Pv.below hd1 hp; replace hdp1 := Pv.below hdp1 hp; replace hdq1 := Pv.below hdq1 hp; replace ha1 := Pv.below ha1 hp; replace hb1 := Pv.below hb1 hp; replace hs1 := Pv.below hs1 hp; replace hro1 := Pv.below hro1 hp; replace hsq1 := Pv.below hsq1 hp; replace hre1 := Pv.below hre1 hp; clear hb hp; have hwa1 := hn; clear hn))
              clear BN BZ
              have hZ := (Below.refl w20.heap.size w20).drew
              replace BEp := BEp.below hZ
              replace BEdp := BEdp.below hZ
              replace Bst := Bst.below hZ
              have cst_0 := Bst.cell 0 (v := .string (numT (some 0))) rfl
              have cst_1 := Bst.cell 1 (v := .string (denT (some 0))) rfl
              have cEdp_0 := BEdp.cell 0 (v := .string (numT (some ed))) rfl
              have cEdp_1 := BEdp.cell 1 (v := .string (denT (some ed))) rfl
              go_region_held3 (fun w' => w'.cell? ⟨w19.heap.size, 0, none⟩ = some (.string (numT (some 0))) ∧ w'.cell? ⟨w19.heap.size, 1, none⟩ = some (.string (denT (some 0))) ∧ w'.cell? ⟨w13.heap.size, 0, none⟩ = some (.string (numT (some ed))) ∧ w'.cell? ⟨w13.heap.size, 1, none⟩ = some (.string (denT (some ed)))) (go_keep) (first
                  | (go_at_call 17; (with_reducible refine (CO0.out _).mono ?_); rintro e wN ⟨rfl, hb⟩; have hZ := below_up hZ hb; have BEp := BEp.below hb; have BEdp := BEdp.below hb; have Bst := Bst.below hb; have cst_0 := Bst.cell 0 (v := .string (numT (some 0))) rfl; have cst_1 := Bst.cell 1 (v := .string (denT (some 0))) rfl; have cEdp_0 := BEdp.cell 0 (v := .string (numT (some ed))) rfl; have cEdp_1 := BEdp.cell 1 (v := .string (denT (some ed))) rfl))
              all_goals (replace hL := hL.below hZ; replace hB := below_up hB hZ; replace hp1 := Pv.below hp1 hZ; replace hq1 := Pv.below hq1 hZ; replace hpq1 := Pv.below hpq1 hZ; replace hd1 := Pv.below hd1 hZ; replace hdp1 := Pv.below hdp1 hZ; replace hdq1 := Pv.below hdq1 hZ; replace ha1 := Pv.below ha1 hZ; replace hb1 := Pv.below hb1 hZ; replace hs1 := Pv.below hs1 hZ; replace hro1 := Pv.below hro1 hZ; replace hsq1 := Pv.below hsq1 hZ; replace hre1 := Pv.below hre1 hZ; replace hwa1 := Pv.below hwa1 hZ; clear hZ)
              all_goals go_wp2_with fail
              all_goals
                have hZ := (below1 wN (.cells #[.string (numT (some 0)), .string (denT (some 0)), .string (numT (some ed)), .string (denT (some ed))] 36)).drew
                replace BEp := BEp.below hZ
                replace BEdp := BEdp.below hZ
                replace Bst := Bst.below hZ
                have BN2 := (Blk.new wN 36 [.string (numT (some 0)), .string (denT (some 0)), .string (numT (some ed)), .string (denT (some ed))]).below (Below.refl (wN.alloc (.cells #[.string (numT (some 0)), .string (denT (some 0)), .string (numT (some ed)), .string (denT (some ed))] 36)).heap.size (wN.alloc (.cells #[.string (numT (some 0)), .string (denT (some 0)), .string (numT (some ed)), .string (denT (some ed))] 36))).drew
                clear cst_0 cst_1 cEdp_0 cEdp_1
                have cEdp_0 := BEdp.cell 0 (v := .string (numT (some ed))) rfl
                have cEdp_1 := BEdp.cell 1 (v := .string (denT (some ed))) rfl
                have cst_0 := Bst.cell 0 (v := .string (numT (some 0))) rfl
                have cst_1 := Bst.cell 1 (v := .string (denT (some 0))) rfl
                go_region_held3 (fun w' => w'.cell? ⟨w13.heap.size, 0, none⟩ = some (.string (numT (some ed))) ∧ w'.cell? ⟨w13.heap.size, 1, none⟩ = some (.string (denT (some ed))) ∧ w'.cell? ⟨w19.heap.size, 0, none⟩ = some (.string (numT (some 0))) ∧ w'.cell? ⟨w19.heap.size, 1, none⟩ = some (.string (denT (some 0)))) (go_keep) (first
                  | (go_at_call 17; (with_reducible refine (CO0.out _).mono ?_); rintro e wN ⟨rfl, hb⟩; have hZ := below_up hZ hb; have BEp := BEp.below hb; have BEdp := BEdp.below hb; have Bst := Bst.below hb; have BN2 := BN2.below hb; have cEdp_0 := BEdp.cell 0 (v := .string (numT (some ed))) rfl; have cEdp_1 := BEdp.cell 1 (v := .string (denT (some ed))) rfl; have cst_0 := Bst.cell 0 (v := .string (numT (some 0))) rfl; have cst_1 := Bst.cell 1 (v := .string (denT (some 0))) rfl))
                all_goals (replace hL := hL.below hZ; replace hB := below_up hB hZ; replace hp1 := Pv.below hp1 hZ; replace hq1 := Pv.below hq1 hZ; replace hpq1 := Pv.below hpq1 hZ; replace hd1 := Pv.below hd1 hZ; replace hdp1 := Pv.below hdp1 hZ; replace hdq1 := Pv.below hdq1 hZ; replace ha1 := Pv.below ha1 hZ; replace hb1 := Pv.below hb1 hZ; replace hs1 := Pv.below hs1 hZ; replace hro1 := Pv.below hro1 hZ; replace hsq1 := Pv.below hsq1 hZ; replace hre1 := Pv.below hre1 hZ; replace hwa1 := Pv.below hwa1 hZ; clear hZ)
              all_goals go_wp2_with (first
                  | (go_at_call 11; (with_reducible refine (lsame_any _ hd1 hs1).mono ?_); rintro e w21 ⟨rfl, hb⟩; have hp := hb; replace BEp := BEp.below hp; replace BEdp := BEdp.below hp; replace Bst := Bst.below hp; replace BN2 := BN2.below hp; clear cEdp_0 cEdp_1 cst_0 cst_1; replace hL := hL.below hp; replace hB := below_up hB hp; replace hp1 := Pv.below hp1 hp; replace hq1 := Pv.below hq1 hp; replace hpq1 := Pv.below hpq1 hp; replace hd1 := Pv.below hd1 hp; replace hdp1 := Pv.below hdp1 hp; replace hdq1 := Pv.below hdq1 hp; replace ha1 := Pv.below ha1 hp; replace hb1 := Pv.below hb1 hp; replace hs1 := Pv.below hs1 hp; replace hro1 := Pv.below hro1 hp; replace hsq1 := Pv.below hsq1 hp; replace hre1 := Pv.below hre1 hp; replace hwa1 := Pv.below hwa1 hp; clear hb hp)
                  | (go_at_call 11; (refine (lsame_any _ hre1 (Blk.pvAll (l := [0, ed]) BN2 2 (Nat.le_refl _) (by simp) (fit2 fst fed))).mono ?_); rintro e w22 ⟨rfl, hb⟩; have hp := hb; replace BEp := BEp.below hp; replace BEdp := BEdp.below hp; replace Bst := Bst.below hp; replace BN2 := BN2.below hp; replace hL := hL.below hp; replace hB := below_up hB hp; replace hp1 := Pv.below hp1 hp; replace hq1 := Pv.below hq1 hp; replace hpq1 := Pv.below hpq1 hp; replace hd1 := Pv.below hd1 hp; replace hdp1 := Pv.below hdp1 hp; replace hdq1 := Pv.below hdq1 hp; replace ha1 := Pv.below ha1 hp; replace hb1 := Pv.below hb1 hp; replace hs1 := Pv.below hs1 hp; replace hro1 := Pv.below hro1 hp; replace hsq1 := Pv.below hsq1 hp; replace hre1 := Pv.below hre1 hp; replace hwa1 := Pv.below hwa1 hp; clear hb hp))
              all_goals go_ret
              all_goals exact ⟨rfl, hB⟩
            · skip
              have hzs := num_zero fst h1
              have hze := num_zero fed h0
              rw [show trimP [st, ed] = [st, ed] from (trim_snoc [st] h0)] at hre1
              go_upto_region 27 with (first
                  | (go_at_call 10; (refine (C15.out _ _ _ (Blk.pvAll (l := []) (Blk.new3 w19 (.cells #[.string (numT (some st)), .string (denT (some st))] 36) (.cells #[.int .i64 0, .int .i64 0, .int .i64 0, .int .i64 0, .int .i64 0, .int .i64 0, .int .i64 0, .int .i64 0, .int .i64 0, .int .i64 0, .int .i64 0, .int .i64 0, .int .i64 0, .int .i64 0] 26) 36 []) 0 (Nat.le_refl _) (by decide) fit_nil) (Pv.nil _) (hL.below (below_up (below_up (below1 w19 (.cells #[.string (numT (some st)), .string (denT (some st))] 36)) (below1 ((w19.alloc (.cells #[.string (numT (some st)), .string (denT (some st))] 36))) (.cells #[.int .i64 0, .int .i64 0, .int .i64 0, .int .i64 0, .int .i64 0, .int .i64 0, .int .i64 0, .int .i64 0, .int .i64 0, .int .i64 0, .int .i64 0, .int .i64 0, .int .i64 0, .int .i64 0] 26))) (below1 (((w19.alloc (.cells #[.string (numT (some st)), .string (denT (some st))] 36)).alloc (.cells #[.int .i64 0, .int .i64 0, .int .i64 0, .int .i64 0, .int .i64 0, .int .i64 0, .int .i64 0, .int .i64 0, .int .i64 0, .int .i64 0, .int .i64 0, .int .i64 0, .int .i64 0, .int .i64 0] 26))) (.cells #[] 36))))).mono ?_); rintro e w20 ⟨vw, rfl, hn, hb⟩; have hp := below_up (below_up (below_up (below1 w19 (.cells #[.string (numT (some st)), .string (denT (some st))] 36)) (below1 ((w19.alloc (.cells #[.string (numT (some st)), .string (denT (some st))] 36))) (.cells #[.int .i64 0, .int .i64 0, .int .i64 0, .int .i64 0, .int .i64 0, .int .i64 0, .int .i64 0, .int .i64 0, .int .i64 0, .int .i64 0, .int .i64 0, .int .i64 0, .int .i64 0, .int .i64 0] 26))) (below1 (((w19.alloc (.cells #[.string (numT (some st)), .string (denT (some st))] 36)).alloc (.cells #[.int .i64 0, .int .i64 0, .int .i64 0, .int .i64 0, .int .i64 0, .int .i64 0, .int .i64 0, .int .i64 0, .int .i64 0, .int .i64 0, .int .i64 0, .int .i64 0, .int .i64 0, .int .i64 0] 26))) (.cells #[] 36))) hb; replace BEp := BEp.below hp; replace BEdp := BEdp.below hp; have Bst := (((Blk.new w19 36 [.string (numT (some st)), .string (denT (some st))]).alloc _).alloc _).below hb; have BZ := ((Blk.new2 w19 (.cells #[.string (numT (some st)), .string (denT (some st))] 36) 26 [.int .i64 0, .int .i64 0, .int .i64 0, .int .i64 0, .int .i64 0, .int .i64 0, .int .i64 0, .int .i64 0, .int .i64 0, .int .i64 0, .int .i64 0, .int .i64 0, .int .i64 0, .int .i64 0]).alloc _).below hb; have BN := (Blk.new3 w19 (.cells #[.string (numT (some st)), .string (denT (some st))] 36) (.cells #[.int .i64 0, .int .i64 0, .int .i64 0, .int .i64 0, .int .i64 0, .int .i64 0, .int .i64 0, .int .i64 0, .int .i64 0, .int .i64 0, .int .i64 0, .int .i64 0, .int .i64 0, .int .i64 0] 26) 36 []).below hb; replace hL := hL.below hp; replace hB := below_up hB hp; replace hp1 := Pv.below hp1 hp; replace hq1 := Pv.below hq1 hp; replace hpq1 := Pv.below hpq1 hp; replace hd1 := Pv.below hd1 hp; replace hdp1 := Pv.below hdp1 hp; replace hdq1 := Pv.below hdq1 hp; replace ha1 := Pv.below ha1 hp; replace hb1 := Pv.below hb1 hp; replace hs1 := Pv.below hs1 hp; replace hro1 := Pv.below hro1 hp; replace hsq1 := Pv.below hsq1 hp; replace hre1 := Pv.below hre1 hp; clear hb hp; have hwa1 := hn; clear hn))
              clear BN BZ
              have hZ := (Below.refl w20.heap.size w20).drew
              replace BEp := BEp.below hZ
              replace BEdp := BEdp.below hZ
              replace Bst := Bst.below hZ
              have cst_0 := Bst.cell 0 (v := .string (numT (some st))) rfl
              have cst_1 := Bst.cell 1 (v := .string (denT (some st))) rfl
              have cEdp_0 := BEdp.cell 0 (v := .string (numT (some ed))) rfl
              have cEdp_1 := BEdp.cell 1 (v := .string (denT (some ed))) rfl
              go_region_with (first
                  | (go_at_call 17; (with_reducible refine (CO0.out _).mono ?_); rintro e wN ⟨rfl, hb⟩; have hZ := below_up hZ hb; have BEp := BEp.below hb; have BEdp := BEdp.below hb; have Bst := Bst.below hb; have cst_0 := Bst.cell 0 (v := .string (numT (some st))) rfl; have cst_1 := Bst.cell 1 (v := .string (denT (some st))) rfl; have cEdp_0 := BEdp.cell 0 (v := .string (numT (some ed))) rfl; have cEdp_1 := BEdp.cell 1 (v := .string (denT (some ed))) rfl))
              all_goals (replace hL := hL.below hZ; replace hB := below_up hB hZ; replace hp1 := Pv.below hp1 hZ; replace hq1 := Pv.below hq1 hZ; replace hpq1 := Pv.below hpq1 hZ; replace hd1 := Pv.below hd1 hZ; replace hdp1 := Pv.below hdp1 hZ; replace hdq1 := Pv.below hdq1 hZ; replace ha1 := Pv.below ha1 hZ; replace hb1 := Pv.below hb1 hZ; replace hs1 := Pv.below hs1 hZ; replace hro1 := Pv.below hro1 hZ; replace hsq1 := Pv.below hsq1 hZ; replace hre1 := Pv.below hre1 hZ; replace hwa1 := Pv.below hwa1 hZ; clear hZ)
              all_goals go_wp2_with fail
              all_goals
                have hZ := (below1 wN (.cells #[.string (numT (some st)), .string (denT (some st)), .string (numT (some ed)), .string (denT (some ed))] 36)).drew
                replace BEp := BEp.below hZ
                replace BEdp := BEdp.below hZ
                replace Bst := Bst.below hZ
                have BN2 := (Blk.new wN 36 [.string (numT (some st)), .string (denT (some st)), .string (numT (some ed)), .string (denT (some ed))]).below (Below.refl (wN.alloc (.cells #[.string (numT (some st)), .string (denT (some st)), .string (numT (some ed)), .string (denT (some ed))] 36)).heap.size (wN.alloc (.cells #[.string (numT (some st)), .string (denT (some st)), .string (numT (some ed)), .string (denT (some ed))] 36))).drew
                clear cst_0 cst_1 cEdp_0 cEdp_1
                have cEdp_0 := BEdp.cell 0 (v := .string (numT (some ed))) rfl
                have cEdp_1 := BEdp.cell 1 (v := .string (denT (some ed))) rfl
                have cst_0 := Bst.cell 0 (v := .string (numT (some st))) rfl
                have cst_1 := Bst.cell 1 (v := .string (denT (some st))) rfl
                go_region_held3 (fun w' => w'.cell? ⟨w13.heap.size, 0, none⟩ = some (.string (numT (some ed))) ∧ w'.cell? ⟨w13.heap.size, 1, none⟩ = some (.string (denT (some ed))) ∧ w'.cell? ⟨w19.heap.size, 0, none⟩ = some (.string (numT (some st))) ∧ w'.cell? ⟨w19.heap.size, 1, none⟩ = some (.string (denT (some st)))) (go_keep) (first
                  | (go_at_call 17; (with_reducible refine (CO0.out _).mono ?_); rintro e wN ⟨rfl, hb⟩; have hZ := below_up hZ hb; have BEp := BEp.below hb; have BEdp := BEdp.below hb; have Bst := Bst.below hb; have BN2 := BN2.below hb; have cEdp_0 := BEdp.cell 0 (v := .string (numT (some ed))) rfl; have cEdp_1 := BEdp.cell 1 (v := .string (denT (some ed))) rfl; have cst_0 := Bst.cell 0 (v := .string (numT (some st))) rfl; have cst_1 := Bst.cell 1 (v := .string (denT (some st))) rfl))
                all_goals (replace hL := hL.below hZ; replace hB := below_up hB hZ; replace hp1 := Pv.below hp1 hZ; replace hq1 := Pv.below hq1 hZ; replace hpq1 := Pv.below hpq1 hZ; replace hd1 := Pv.below hd1 hZ; replace hdp1 := Pv.below hdp1 hZ; replace hdq1 := Pv.below hdq1 hZ; replace ha1 := Pv.below ha1 hZ; replace hb1 := Pv.below hb1 hZ; replace hs1 := Pv.below hs1 hZ; replace hro1 := Pv.below hro1 hZ; replace hsq1 := Pv.below hsq1 hZ; replace hre1 := Pv.below hre1 hZ; replace hwa1 := Pv.below hwa1 hZ; clear hZ)
              all_goals go_wp2_with (first
                  | (go_at_call 11; (with_reducible refine (lsame_any _ hd1 hs1).mono ?_); rintro e w21 ⟨rfl, hb⟩; have hp := hb; replace BEp := BEp.below hp; replace BEdp := BEdp.below hp; replace Bst := Bst.below hp; replace BN2 := BN2.below hp; clear cEdp_0 cEdp_1 cst_0 cst_1; replace hL := hL.below hp; replace hB := below_up hB hp; replace hp1 := Pv.below hp1 hp; replace hq1 := Pv.below hq1 hp; replace hpq1 := Pv.below hpq1 hp; replace hd1 := Pv.below hd1 hp; replace hdp1 := Pv.below hdp1 hp; replace hdq1 := Pv.below hdq1 hp; replace ha1 := Pv.below ha1 hp; replace hb1 := Pv.below hb1 hp; replace hs1 := Pv.below hs1 hp; replace hro1 := Pv.below hro1 hp; replace hsq1 := Pv.below hsq1 hp; replace hre1 := Pv.below hre1 hp; replace hwa1 := Pv.below hwa1 hp; clear hb hp)
                  | (go_at_call 11; (refine (lsame_any _ hre1 (Blk.pvAll (l := [st, ed]) BN2 2 (Nat.le_refl _) (by simp) (fit2 fst fed))).mono ?_); rintro e w22 ⟨rfl, hb⟩; have hp := hb; replace BEp := BEp.below hp; replace BEdp := BEdp.below hp; replace Bst := Bst.below hp; replace BN2 := BN2.below hp; replace hL := hL.below hp; replace hB := below_up hB hp; replace hp1 := Pv.below hp1 hp; replace hq1 := Pv.below hq1 hp; replace hpq1 := Pv.below hpq1 hp; replace hd1 := Pv.below hd1 hp; replace hdp1 := Pv.below hdp1 hp; replace hdq1 := Pv.below hdq1 hp; replace ha1 := Pv.below ha1 hp; replace hb1 := Pv.below hb1 hp; replace hs1 := Pv.below hs1 hp; replace hro1 := Pv.below hro1 hp; replace hsq1 := Pv.below hsq1 hp; replace hre1 := Pv.below hre1 hp; replace hwa1 := Pv.below hwa1 hp; clear hb hp))
              all_goals go_ret
              all_goals exact ⟨rfl, hB⟩

end Go.Proofs.YtaalbmnlpppeaaaGreatDoor
