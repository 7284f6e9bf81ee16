/- The walk of PolyDivided. Conditions: the tables of strconv. -/
import Derived.Test.YtaalbmnlpppeaaaGreatDoorM19
namespace Go.Proofs.YtaalbmnlpppeaaaGreatDoor
open Go.RowKit Num
open Go.Shelf

theorem valid_c {p : List Rat} (hp : Vp p) (w : World) (v : Value) (hv : Pv w v p) (hL : Laid w) : Calls Tryz.prog 12 #[v] w (RetB w true) := by
  have h := pvalid_any w hv hp.1 hL
  rwa [ntB_true hp.2.1] at h
set_option maxHeartbeats 4000000 in
set_option maxRecDepth 100000 in
theorem divided_any {x y z : Value} (w : World) (hx : Rx w x) (hy : Rx w y) (hz : Rx w z) (hL : Laid w) :
    Calls Tryz.prog 3 #[x, y, z] w (RetB w true) := by
  have HL0 := Lib.hid hL
  have CX : Hid (∀ w', Below w.heap.size w w' → Calls Tryz.prog 7 #[x] w' (fun e w2 => ∃ l, In l ∧ RetL7 w' l e w2)) := Lib.hid (fun w' hb => make_any w' (hx.below hb) (HL0.out.below hb))
  have CY : Hid (∀ w', Below w.heap.size w w' → Calls Tryz.prog 7 #[y] w' (fun e w2 => ∃ l, In l ∧ RetL7 w' l e w2)) := Lib.hid (fun w' hb => make_any w' (hy.below hb) (HL0.out.below hb))
  have CZ : Hid (∀ w', Below w.heap.size w w' → Calls Tryz.prog 7 #[z] w' (fun e w2 => ∃ l, In l ∧ RetL7 w' l e w2)) := Lib.hid (fun w' hb => make_any w' (hz.below hb) (HL0.out.below hb))
  have CS := Lib.hid (fun (w : World) (hL : Laid w) => sane_any w hL)
  have low : Below w.heap.size w w := Below.refl _ _
  clear hx hy hz hL
  go_enter Tryz.func3, Tryz.ntmps3
  go_upto_region 5 with (first
    | (go_at_call 6; (with_reducible refine (CS.out _ (HL0.out.below low)).mono ?_); rintro e W1 ⟨rfl, hb⟩; replace low := below_up low hb; (try replace hp1 := Pv.below hp1 hb); (try replace hq1 := Pv.below hq1 hb); (try replace hr1 := Pv.below hr1 hb); (try replace ha1 := Pv.below ha1 hb); (try replace hb1 := Pv.below hb1 hb); (try replace hm1 := Pv.below hm1 hb); (try replace hs1 := Pv.below hs1 hb); (try replace hrq1 := Pv.below hrq1 hb); (try replace hc1 := Pv.below hc1 hb); (try replace hd1 := Pv.below hd1 hb); clear hb)
    | (go_at_call 7; (with_reducible refine (CX.out _ low).mono ?_); rintro e W1 ⟨p, hp, vp, rfl, hn, hb⟩; replace low := below_up low hb; (try replace hp1 := Pv.below hp1 hb); (try replace hq1 := Pv.below hq1 hb); (try replace hr1 := Pv.below hr1 hb); (try replace ha1 := Pv.below ha1 hb); (try replace hb1 := Pv.below hb1 hb); (try replace hm1 := Pv.below hm1 hb); (try replace hs1 := Pv.below hs1 hb); (try replace hrq1 := Pv.below hrq1 hb); (try replace hc1 := Pv.below hc1 hb); (try replace hd1 := Pv.below hd1 hb); clear hb; have hp1 := hn; clear hn)
    | (go_at_call 7; (with_reducible refine (CY.out _ low).mono ?_); rintro e W1 ⟨q, hq, vq, rfl, hn, hb⟩; replace low := below_up low hb; (try replace hp1 := Pv.below hp1 hb); (try replace hq1 := Pv.below hq1 hb); (try replace hr1 := Pv.below hr1 hb); (try replace ha1 := Pv.below ha1 hb); (try replace hb1 := Pv.below hb1 hb); (try replace hm1 := Pv.below hm1 hb); (try replace hs1 := Pv.below hs1 hb); (try replace hrq1 := Pv.below hrq1 hb); (try replace hc1 := Pv.below hc1 hb); (try replace hd1 := Pv.below hd1 hb); clear hb; have hq1 := hn; clear hn)
    | (go_at_call 7; (with_reducible refine (CZ.out _ low).mono ?_); rintro e W1 ⟨r, hr, vr, rfl, hn, hb⟩; replace low := below_up low hb; (try replace hp1 := Pv.below hp1 hb); (try replace hq1 := Pv.below hq1 hb); (try replace hr1 := Pv.below hr1 hb); (try replace ha1 := Pv.below ha1 hb); (try replace hb1 := Pv.below hb1 hb); (try replace hm1 := Pv.below hm1 hb); (try replace hs1 := Pv.below hs1 hb); (try replace hrq1 := Pv.below hrq1 hb); (try replace hc1 := Pv.below hc1 hb); (try replace hd1 := Pv.below hd1 hb); clear hb; have hr1 := hn; clear hn))
  by_cases hq0 : q = []
  · subst hq0
    obtain ⟨Aq, cq, eq, -, -, -⟩ := id hq1
    subst eq
    have hq2 : Pv W1 (.slice Aq 0 cq) [] := hq1
    have CF := Lib.hid (api_div_fail _ hp1 hq2 (hp.vp (by decide) (by decide) (by decide) (by decide)) (HL0.out.below low))
    clear hq2
    clear hp1 hq1 hr1 hp hq hr CX CY CZ CS
    go_wp2_with (go_at_call 8; (with_reducible refine CF.out.mono ?_); rintro e W2 ⟨rfl, hb⟩; replace low := below_up low hb; clear hb)
    go_ret
    exact ⟨rfl, low⟩
  · obtain ⟨a, b, m, rq, h1, h2, h3, h4, h5, h6, va, vb, vm, vrq, vp', vq', vr'⟩ := divided_law hp hq hr hq0
    have CD : Hid (∀ (w : World) (v u : Value), Pv w v p → Pv w u q → Laid w → Calls Tryz.prog 8 #[v, u] w (RetL2 w a b)) := Lib.hid (fun w v u hv hu hL => api_div w hv hu vp' vq' h1 hL)
    have CM : Hid (∀ (w : World) (v u : Value), Pv w v a → Pv w u q → Laid w → Calls Tryz.prog 9 #[v, u] w (RetLE w m)) := Lib.hid (fun w v u hv hu hL => api_mul w hv hu va vq' h2 hL)
    have CA : Hid (∀ (w : World) (v u : Value), Pv w v m → Pv w u b → Laid w → Calls Tryz.prog 10 #[v, u] w (RetLE w p)) := Lib.hid (fun w v u hv hu hL => api_add w hv hu vm vb h3 hL)
    have CN : Hid (∀ (w : World) (v u : Value), Pv w v r → Pv w u q → Laid w → Calls Tryz.prog 9 #[v, u] w (RetLE w rq)) := Lib.hid (fun w v u hv hu hL => api_mul w hv hu vr' vq' h4 hL)
    have CE : Hid (∀ (w : World) (v u : Value), Pv w v rq → Pv w u q → Laid w → Calls Tryz.prog 8 #[v, u] w (RetL2 w r [])) := Lib.hid (fun w v u hv hu hL => api_div w hv hu vrq vq' h5 hL)
    have CVa : Hid (∀ (w : World) (v : Value), Pv w v a → Laid w → Calls Tryz.prog 12 #[v] w (RetB w true)) := Lib.hid (fun w v hv hL => valid_c va w v hv hL)
    have CVb : Hid (∀ (w : World) (v : Value), Pv w v b → Laid w → Calls Tryz.prog 12 #[v] w (RetB w true)) := Lib.hid (fun w v hv hL => valid_c vb w v hv hL)
    have hlt : (b.length : Int) < (q.length : Int) := by omega
    have hq2 : ((q.length : Int) == 0) = false := beq_eq_false_iff_ne.2 (by have := List.length_pos_iff.2 hq0; omega)
    obtain ⟨Aq, cq, eq, -, -, -⟩ := id hq1
    subst eq
    clear h1 h2 h3 h4 h5 h6 va vb vm vrq vp' vq' vr' hq0 hp hq hr CX CY CZ CS
    go_wp2_with (first
      | (go_at_call 8; (with_reducible refine (CD.out _ _ _ hp1 hq1 (HL0.out.below low)).mono ?_); rintro e W1 ⟨va, vb, rfl, hn, hn2, hb⟩; replace low := below_up low hb; (try replace hp1 := Pv.below hp1 hb); (try replace hq1 := Pv.below hq1 hb); (try replace hr1 := Pv.below hr1 hb); (try replace ha1 := Pv.below ha1 hb); (try replace hb1 := Pv.below hb1 hb); (try replace hm1 := Pv.below hm1 hb); (try replace hs1 := Pv.below hs1 hb); (try replace hrq1 := Pv.below hrq1 hb); (try replace hc1 := Pv.below hc1 hb); (try replace hd1 := Pv.below hd1 hb); clear hb; have ha1 := hn; have hb1 := hn2; clear hn hn2; obtain ⟨Ab, cb, eb, -, -, -⟩ := id hb1; subst eb)
      | (go_at_call 9; (with_reducible refine (CM.out _ _ _ ha1 hq1 (HL0.out.below low)).mono ?_); rintro e W1 ⟨vm, rfl, hn, hb⟩; replace low := below_up low hb; (try replace hp1 := Pv.below hp1 hb); (try replace hq1 := Pv.below hq1 hb); (try replace hr1 := Pv.below hr1 hb); (try replace ha1 := Pv.below ha1 hb); (try replace hb1 := Pv.below hb1 hb); (try replace hm1 := Pv.below hm1 hb); (try replace hs1 := Pv.below hs1 hb); (try replace hrq1 := Pv.below hrq1 hb); (try replace hc1 := Pv.below hc1 hb); (try replace hd1 := Pv.below hd1 hb); clear hb; have hm1 := hn; clear hn)
      | (go_at_call 10; (with_reducible refine (CA.out _ _ _ hm1 hb1 (HL0.out.below low)).mono ?_); rintro e W1 ⟨vs, rfl, hn, hb⟩; replace low := below_up low hb; (try replace hp1 := Pv.below hp1 hb); (try replace hq1 := Pv.below hq1 hb); (try replace hr1 := Pv.below hr1 hb); (try replace ha1 := Pv.below ha1 hb); (try replace hb1 := Pv.below hb1 hb); (try replace hm1 := Pv.below hm1 hb); (try replace hs1 := Pv.below hs1 hb); (try replace hrq1 := Pv.below hrq1 hb); (try replace hc1 := Pv.below hc1 hb); (try replace hd1 := Pv.below hd1 hb); clear hb; have hs1 := hn; clear hn)
      | (go_at_call 9; (with_reducible refine (CN.out _ _ _ hr1 hq1 (HL0.out.below low)).mono ?_); rintro e W1 ⟨vrq, rfl, hn, hb⟩; replace low := below_up low hb; (try replace hp1 := Pv.below hp1 hb); (try replace hq1 := Pv.below hq1 hb); (try replace hr1 := Pv.below hr1 hb); (try replace ha1 := Pv.below ha1 hb); (try replace hb1 := Pv.below hb1 hb); (try replace hm1 := Pv.below hm1 hb); (try replace hs1 := Pv.below hs1 hb); (try replace hrq1 := Pv.below hrq1 hb); (try replace hc1 := Pv.below hc1 hb); (try replace hd1 := Pv.below hd1 hb); clear hb; have hrq1 := hn; clear hn)
      | (go_at_call 8; (with_reducible refine (CE.out _ _ _ hrq1 hq1 (HL0.out.below low)).mono ?_); rintro e W1 ⟨vc, vd, rfl, hn, hn2, hb⟩; replace low := below_up low hb; (try replace hp1 := Pv.below hp1 hb); (try replace hq1 := Pv.below hq1 hb); (try replace hr1 := Pv.below hr1 hb); (try replace ha1 := Pv.below ha1 hb); (try replace hb1 := Pv.below hb1 hb); (try replace hm1 := Pv.below hm1 hb); (try replace hs1 := Pv.below hs1 hb); (try replace hrq1 := Pv.below hrq1 hb); (try replace hc1 := Pv.below hc1 hb); (try replace hd1 := Pv.below hd1 hb); clear hb; have hc1 := hn; have hd1 := hn2; clear hn hn2; obtain ⟨Ad, cd, ed, -, -, -⟩ := id hd1; subst ed)
      | (go_at_call 11; (with_reducible refine (lsame_any _ hs1 hp1).mono ?_); rintro e W1 ⟨rfl, hb⟩; replace low := below_up low hb; (try replace hp1 := Pv.below hp1 hb); (try replace hq1 := Pv.below hq1 hb); (try replace hr1 := Pv.below hr1 hb); (try replace ha1 := Pv.below ha1 hb); (try replace hb1 := Pv.below hb1 hb); (try replace hm1 := Pv.below hm1 hb); (try replace hs1 := Pv.below hs1 hb); (try replace hrq1 := Pv.below hrq1 hb); (try replace hc1 := Pv.below hc1 hb); (try replace hd1 := Pv.below hd1 hb); clear hb)
      | (go_at_call 11; (with_reducible refine (lsame_any _ hc1 hr1).mono ?_); rintro e W1 ⟨rfl, hb⟩; replace low := below_up low hb; (try replace hp1 := Pv.below hp1 hb); (try replace hq1 := Pv.below hq1 hb); (try replace hr1 := Pv.below hr1 hb); (try replace ha1 := Pv.below ha1 hb); (try replace hb1 := Pv.below hb1 hb); (try replace hm1 := Pv.below hm1 hb); (try replace hs1 := Pv.below hs1 hb); (try replace hrq1 := Pv.below hrq1 hb); (try replace hc1 := Pv.below hc1 hb); (try replace hd1 := Pv.below hd1 hb); clear hb)
      | (go_at_call 12; (with_reducible refine (CVa.out _ _ ha1 (HL0.out.below low)).mono ?_); rintro e W1 ⟨rfl, hb⟩; replace low := below_up low hb; (try replace hp1 := Pv.below hp1 hb); (try replace hq1 := Pv.below hq1 hb); (try replace hr1 := Pv.below hr1 hb); (try replace ha1 := Pv.below ha1 hb); (try replace hb1 := Pv.below hb1 hb); (try replace hm1 := Pv.below hm1 hb); (try replace hs1 := Pv.below hs1 hb); (try replace hrq1 := Pv.below hrq1 hb); (try replace hc1 := Pv.below hc1 hb); (try replace hd1 := Pv.below hd1 hb); clear hb)
      | (go_at_call 12; (with_reducible refine (CVb.out _ _ hb1 (HL0.out.below low)).mono ?_); rintro e W1 ⟨rfl, hb⟩; replace low := below_up low hb; (try replace hp1 := Pv.below hp1 hb); (try replace hq1 := Pv.below hq1 hb); (try replace hr1 := Pv.below hr1 hb); (try replace ha1 := Pv.below ha1 hb); (try replace hb1 := Pv.below hb1 hb); (try replace hm1 := Pv.below hm1 hb); (try replace hs1 := Pv.below hs1 hb); (try replace hrq1 := Pv.below hrq1 hb); (try replace hc1 := Pv.below hc1 hb); (try replace hd1 := Pv.below hd1 hb); clear hb))
    go_ret
    exact ⟨rfl, low⟩

end Go.Proofs.YtaalbmnlpppeaaaGreatDoor
