/- workpiecelaw07's sane. Conditions: the tables of strconv. workpieceref07.Make: a polynomial that integers determine. Conditions: none. -/
import Derived.Test.YtffndcjmabjhiaaGreatDoorM18
import Derived.Test.YtffndcjmabjhiaaGreatDoorM16
import Derived.Test.YtffndcjmabjhiaaGreatDoorM9
import Derived.Test.YtffndcjmabjhiaaGreatDoorM5
import Derived.Test.YtffndcjmabjhiaaGreatDoorK16
import Derived.Test.YtffndcjmabjhiaaGreatDoorK17
import Derived.Deep.RegionHeld3
namespace Go.Proofs.YtffndcjmabjhiaaGreatDoor
open Go.RowKit Num
open Go.Shelf

theorem rd_lits (w : World) (xs : List Int) (hm : xs.length ≤ 1000000) : Rd (w.alloc (.cells (xs.map fun x => Value.int .i64 x).toArray 3)) (.slice (some ⟨w.heap.size, 0, none⟩) xs.length xs.length) xs := by
  refine ⟨_, _, rfl, ⟨Nat.le_refl _, fun e => by cases e⟩, hm, fun _ => ⟨w.heap.size, 0, rfl, fun j hj => ?_⟩⟩
  rw [Nat.zero_add]
  refine (Blk.new w 3 (xs.map fun x => Value.int .i64 x)).cell j ?_
  rw [List.getElem?_map, List.getElem?_eq_getElem hj]
  rfl
theorem ints_lit (xs : List Int) (hm : xs.length ≤ 1000) (hb : xs.all (fun x => decide (-1000000 ≤ x ∧ x ≤ 1000000)) = true) (w : World) :
    Calls Tryz.prog 45 #[.slice (some ⟨w.heap.size, 0, none⟩) xs.length xs.length] (w.alloc (.cells (xs.map fun x => Value.int .i64 x).toArray 3)) (RetIn w (ratsL xs)) := by
  refine (ints_any _ (rd_lits w xs (by omega)) hm (fun j hj => ?_)).mono ?_
  · rw [List.getElem?_eq_getElem hj]
    have := List.all_eq_true.1 hb _ (List.getElem_mem hj)
    exact of_decide_eq_true this
  · rintro e w' ⟨v, rfl, hv, hb2⟩
    exact ⟨v, rfl, hv, below_up (below1 _ _) hb2⟩
theorem of_lit (n d : Int) (q : Rat) (hn0 : -9223372036854775808 ≤ n) (hn1 : n ≤ 9223372036854775807) (hd0 : -9223372036854775808 ≤ d) (hd1 : d ≤ 9223372036854775807) (h0 : d ≠ 0) (hq : Rat.divInt n d = q) (w : World) :
    Calls Tryz.prog 14 #[.int .i64 n, .int .i64 d] w (RetR w q) := by
  subst hq; exact of_any n d hn0 hn1 hd0 hd1 h0 w
theorem iso_cells {w : World} {l : List (Rat × Rat)} {e : Ending} {w' : World} (h : RetIvE w l e w') (hl : 0 < l.length) (L : List Value) (hL : flat (pairs l) = L) : RetCl w l.length L e w' := by
  obtain ⟨v, rfl, ⟨B, hr⟩, hb⟩ := h
  have hr' := hr
  obtain ⟨h1, h2⟩ := hr
  rcases h2 with ⟨rfl, hn⟩ | ⟨g, cap, cur, rfl, hg, hh, hcl, hc, hcap, h3⟩
  · omega
  · refine ⟨g, cap, rfl, fun j u hu => ?_, hb⟩
    rw [← hL] at hu
    have hj : j < l.length * 4 := by
      have := (List.getElem?_eq_some_iff.1 hu).1
      rw [flat_len, pairs_len] at this
      omega
    rw [World.ownsRow.cellAt hr' j hj]
    exact hu
set_option maxRecDepth 100000 in
theorem sane_any (w : World) (hL : Laid w) : Calls Tryz.prog 11 #[] w (RetB w true) := by
  have hvp : ∀ l ∈ (ratsL [1, 1] :: ratsL [1, -1] :: ratsL [-1, 0, 1] :: ratsL [-2, 1] :: ratsL [-2, 2] :: ratsL [0, 0, 0, 1] :: ratsL [-2, 0, 1] :: ratsL [-1, 3, -3, 1] :: ratsL [0, -1, 1] :: ratsL [1, 2, 3] :: []), Vp l := fun l hl => lit_vp (List.all_eq_true.1 lit_sm l hl)
  have p0 : Pl 0 := okB_pl _ (by decide +kernel)
  have p1 : Pl 1 := okB_pl _ (by decide +kernel)
  have p2 : Pl 2 := okB_pl _ (by decide +kernel)
  have m1 : Pl (-1) := okB_pl _ (by decide +kernel)
  have m2 : Pl (-2) := okB_pl _ (by decide +kernel)
  refine sane_walk (q0 := 0) (q2 := 2) (r2 := -2) (q1 := 1) (r1 := -1) (qa := Rat.divInt 11 8) (qb := Rat.divInt 23 16) (qc := 17)
    (fun w => of_lit 0 1 0 (by decide) (by decide) (by decide) (by decide) (by decide) (by decide +kernel) w) (fun w => of_lit 2 1 2 (by decide) (by decide) (by decide) (by decide) (by decide) (by decide +kernel) w)
    (fun w => of_lit (-2) 1 (-2) (by decide) (by decide) (by decide) (by decide) (by decide) (by decide +kernel) w) (fun w => of_lit 1 1 1 (by decide) (by decide) (by decide) (by decide) (by decide) (by decide +kernel) w)
    (fun w => of_lit (-1) 1 (-1) (by decide) (by decide) (by decide) (by decide) (by decide) (by decide +kernel) w) (fun w => of_lit 11 8 _ (by decide) (by decide) (by decide) (by decide) (by decide) rfl w)
    (fun w => of_lit 23 16 _ (by decide) (by decide) (by decide) (by decide) (by decide) rfl w) (fun w => of_lit 17 1 17 (by decide) (by decide) (by decide) (by decide) (by decide) (by decide +kernel) w)
    (fun w => ints_lit [1, 1] (by decide) (by decide) w) (fun w => ints_lit [1, -1] (by decide) (by decide) w) (fun w => ints_lit [-1, 0, 1] (by decide) (by decide) w) (fun w => ints_lit [-2, 1] (by decide) (by decide) w)
    (fun w => ints_lit [-2, 2] (by decide) (by decide) w) (fun w => ints_lit [0, 0, 0, 1] (by decide) (by decide) w) (fun w => ints_lit [-2, 0, 1] (by decide) (by decide) w) (fun w => ints_lit [-1, 3, -3, 1] (by decide) (by decide) w)
    (fun w => ints_lit [0, -1, 1] (by decide) (by decide) w) (fun w => ints_lit [1, 2, 3] (by decide) (by decide) w) (fun w => ints_lit [1, 0, -1] (by decide) (by decide) w) (fun w => ints_lit [2, 1] (by decide) (by decide) w)
    (fun w => ints_lit [3] (by decide) (by decide) w) (fun w => ints_lit [-1, 1] (by decide) (by decide) w) (fun w => ints_lit [0, 0, 3] (by decide) (by decide) w) (fun w => ints_lit [1, 0] (by decide) (by decide) w)
    (fun w v u hv hu hL => api_mul w hv hu (hvp _ (by simp)) (hvp _ (by simp)) lit_mul hL) (fun w v u hv hu hL => api_div w hv hu (hvp _ (by simp)) (hvp _ (by simp)) lit_by hL)
    (fun w v u hv hu hL => api_gcd w hv hu (hvp _ (by simp)) (hvp _ (by simp)) lit_gcd hL) (fun w v hv hL => api_derivative w hv (hvp _ (by simp)) lit_deriv hL)
    (fun w v hv hL => ?_) (fun w v hv hL => ?_) (fun w v hv hL => ?_) (fun w hL => ?_) (fun w v hv hL => ?_) (fun w v hv hL => ?_) (fun w v hv hL => ?_)
    (fun p w v u hv hu => lsame_any w hv hu) (fun w hL => ?_) (fun w v hv hL => ?_) w hL
  · have h := api_count w hv (hvp _ (by simp)) (by decide) (p0.pe (smB_all lit_c1)) (p2.pe (smB_all lit_c1)) (by decide +kernel) lit_s1 hL
    rw [lit_v1] at h; exact h
  · have h := api_count w hv (hvp _ (by simp)) (by decide) (m2.pe (smB_all lit_c1)) (p2.pe (smB_all lit_c1)) (by decide +kernel) lit_s1 hL
    rw [lit_v2] at h; exact h
  · have h := api_count w hv (hvp _ (by simp)) (by decide) (p0.pe (smB_all lit_c2)) (p1.pe (smB_all lit_c2)) (by decide +kernel) lit_s2 hL
    rw [lit_v3] at h; exact h
  · exact api_count_fail w (Pv.nil w) hL
  · refine (api_isolate (k := 1) w hv (hvp _ (by simp)) (by decide) (p0.pe (smB_all lit_c1)) (p2.pe (smB_all lit_c1)) (by decide +kernel) lit_s1 (by decide) okB (fun x hx => (okB_pl x hx).pe (smB_all lit_c1)) lit_e1 (by decide) hL).mono fun e w' h => ?_
    exact iso_cells h (by decide) _ rfl
  · refine (api_isolate (k := 0) w hv (hvp _ (by simp)) (by decide) (m1.pe (smB_all lit_c3)) (p1.pe (smB_all lit_c3)) (by decide +kernel) lit_s3 (by decide) okB (fun x hx => (okB_pl x hx).pe (smB_all lit_c3)) lit_e2 (by decide) hL).mono fun e w' h => ?_
    exact iso_cells h (by decide) _ rfl
  · have hs : Sm (ratsL [1, 2, 3]) := smB_sm (by decide +kernel)
    have h := api_eval w hv (hvp _ (by simp)) (pl_fit p2) (sm_ev hs p2).g hL
    rw [lit_ev] at h; exact h
  · exact pvalid_any w (Pv.nil w) (by decide) hL
  · exact pvalid_any w hv (by decide) hL

end Go.Proofs.YtffndcjmabjhiaaGreatDoor

namespace Go.Proofs.YtffndcjmabjhiaaGreatDoor
open Go.RowKit Num
open Go.Shelf

theorem coef_bd {a b : Int} (ha0 : -6 ≤ a) (ha1 : a ≤ 6) (hb0 : 1 ≤ b) (hb1 : b ≤ 3) : bd 6 36 (Rat.divInt a b) := by
  have e6 : ((6 : Nat) : Rat) = 6 := rfl
  have h : b = 1 ∨ b = 2 ∨ b = 3 := by omega
  rcases h with rfl | rfl | rfl
  · refine ⟨a * 6, by omega, ?_⟩
    rw [Rat.divInt_eq_div, Rat.intCast_mul, e6]
    have h1 : ((1 : Int) : Rat) = 1 := rfl
    have h6 : ((6 : Int) : Rat) = 6 := rfl
    rw [h1, h6]; grind
  · refine ⟨a * 3, by omega, ?_⟩
    rw [Rat.divInt_eq_div, Rat.intCast_mul, e6]
    have h1 : ((2 : Int) : Rat) = 2 := rfl
    have h6 : ((3 : Int) : Rat) = 3 := rfl
    rw [h1, h6]; grind
  · refine ⟨a * 2, by omega, ?_⟩
    rw [Rat.divInt_eq_div, Rat.intCast_mul, e6]
    have h1 : ((3 : Int) : Rat) = 3 := rfl
    have h6 : ((2 : Int) : Rat) = 2 := rfl
    rw [h1, h6]; grind
theorem tdiv_in (x : Int) (h0 : -9223372036854775808 ≤ x) (h1 : x ≤ 9223372036854775807) : -9223372036854775808 ≤ x.tdiv 13 ∧ x.tdiv 13 ≤ 9223372036854775807 := by
  rcases Int.le_total 0 x with h | h
  · rw [Int.tdiv_eq_ediv_of_nonneg h]; omega
  · obtain ⟨y, rfl⟩ : ∃ y, x = -y := ⟨-x, by omega⟩
    rw [Int.neg_tdiv, Int.tdiv_eq_ediv_of_nonneg (by omega)]; omega
theorem bdL_snoc {D N : Nat} {l : List Rat} {q : Rat} (h : bdL D N l) (hq : bd D N q) : bdL D N (l ++ [q]) := fun i => by
  rw [cf_snoc]
  split
  · exact hq
  · exact h i
theorem trim_in {l : List Rat} (h : l.length ≤ 5) (hb : bdL 6 36 l) : In (trimP l) := ⟨Nat.le_trans (trim_len l) h, trim_NT l, fun i => by rw [trim_cf]; exact hb i⟩
theorem bd36_fit {q : Rat} (h : bd 6 36 q) : fitQ q := lim.fit (h.lim90 (by decide) (by decide) (by decide)) (by decide)

/-- The slice value v reads as integers. -/
def Rx (w : World) (v : Value) : Prop := ∃ (A : Option Addr) (n c : Nat) (f : Nat → Int), v = .slice A n c ∧ n ≤ 9223372036854775807 ∧ (0 < n → ∃ b o, A = some ⟨b, o, none⟩ ∧ ∀ j, j < n → w.cell? ⟨b, o + j, none⟩ = some (.int .i64 (f j))) ∧ ∀ j, j < n → -9223372036854775808 ≤ f j ∧ f j ≤ 9223372036854775807
theorem Rx.below {w w' : World} {v : Value} (h : Rx w v) (hb : Below w.heap.size w w') : Rx w' v := by
  obtain ⟨A, n, c, f, hv, hm, hx, hr⟩ := h
  refine ⟨A, n, c, f, hv, hm, fun h0 => ?_, hr⟩
  obtain ⟨b, o, hA, hy⟩ := hx h0
  exact ⟨b, o, hA, fun j hj => (hb.cell (cell_lt (hy j hj))).trans (hy j hj)⟩
set_option maxHeartbeats 4000000 in
set_option maxRecDepth 100000 in
theorem make_len {A : Option Addr} {n c : Nat} (w : World) (hv : Rx w (.slice A n c)) (hL : Laid w) :
    Calls Tryz.prog 18 #[.slice A n c] w (fun e w' => ∃ l, (In l ∧ l.length ≤ n) ∧ RetL7 w l e w') := by
  obtain ⟨A', n', c', f, e, hm2, hx, hxs⟩ := hv
  obtain ⟨rfl, rfl, rfl⟩ : A = A' ∧ n = n' ∧ c = c' := by simp at e; exact ⟨e.1, e.2.1, e.2.2⟩
  clear e
  have HX := Lib.hid hx
  have HXS := Lib.hid hxs
  have HL0 := Lib.hid hL
  clear hx hxs hL
  have hB : Below w.heap.size w w := Below.refl _ _
  have hmixed : Tryz.prog.follows .mixedOrders = true := by kernel_rfl
  go_enter Tryz.func18, Tryz.ntmps18
  go_wp2
  go_loopg [3, 4] 5 (fun k s3 s4 wr => ∃ (j : Nat) (lq : List Rat), s4 = .int .i64 j ∧ lq.length = j ∧ j ≤ n ∧ j ≤ 5 ∧ 5 ≤ k + j ∧ RowR wr w.heap.size s3 lq ∧ bdL 6 36 lq ∧ Below w.heap.size w wr)
  case atStart => exact ⟨0, [], rfl, rfl, by omega, by omega, by omega, RowR.nil _ _, fun i => bd.zero _ _, hB⟩
  case round =>
    clear hB
    obtain ⟨j, lq, rfl, hlq, hj, hj5, hk, hR, hbd, hB⟩ := hrel
    by_cases hg : j < n
    · by_cases hg5 : j < 5
      · have hgi : (j : Int) < n := by omega
        have hgi5 : (j : Int) < 5 := by omega
        obtain ⟨b, o, rfl, hy⟩ := HX.out (by omega)
        have k0 := (hB.cell (cell_lt (hy j hg))).trans (hy j hg)
        obtain ⟨hx0, hx1⟩ := HXS.out j hg
        have HR := Lib.hid hR
        have HBD := Lib.hid hbd
        have HLQ := Lib.hid hlq
        clear hy hR hbd hlq
        generalize f j = x at *
        have hq : -9223372036854775808 ≤ x.tdiv 13 ∧ x.tdiv 13 ≤ 9223372036854775807 := tdiv_in x hx0 hx1
        have hqw : IntKind.i64.wrap (x.tdiv 13) = x.tdiv 13 := IntWalk.i64_in _ hq
        obtain ⟨hq0, hq1⟩ := hq
        go_upto_region 5 with fail
        go_cut [5, 6] (fun s5 s6 wx => ∃ g q, BoxOut wr g 29 [.string (numT (some q)), .string (denT (some q))] s5 wx ∧ bd 6 36 q)
        case first =>
          have hZ : Below wr.heap.size wr wr.drew := (Below.refl _ _).drew
          have k1 := (hZ.cell (cell_lt k0)).trans k0
          have e0 := Nat.ne_of_gt (cell_lt k0)
          have e1 := e0.symm
          go_region_held3 (fun w' => w'.cell? ⟨b, o + j, none⟩ = some (.int .i64 x)) (go_keep) (first
            | (go_at_call 66; (with_reducible refine (rpick_any x 13 hx0 hx1 (by decide) (by decide) _).mono ?_); rintro e v' ⟨k, hk0, hk1, rfl, rfl⟩; have hwk : IntKind.i64.wrap (k - 6) = k - 6 := IntWalk.i64_in _ (by omega))
            | (go_at_call 66; (with_reducible refine (rpick_any (x.tdiv 13) 3 hq0 hq1 (by decide) (by decide) _).mono ?_); rintro e v' ⟨l, hl0, hl1, rfl, rfl⟩; have hwl : IntKind.i64.wrap (1 + l) = 1 + l := IntWalk.i64_in _ (by omega))
            | (go_at_call 47; (refine (tof_some (k - 6) (1 + l) (by omega) (by omega) (by omega) (by omega) (by omega) _).mono ?_); rintro e wN ⟨rfl, hb⟩; (try (have BN : Blk wN wr.heap.size 29 [.string ⟨#[]⟩, .string ⟨#[]⟩] := Blk.below (Blk.new wr.drew 29 [.string ⟨#[]⟩, .string ⟨#[]⟩]) hb; have hg : wr.heap.size ≤ wr.heap.size := Nat.le_refl _)); have hZ := (by first | exact below_up hZ hb | exact below_up (below_up hZ (below1 _ _)) hb : Below wr.heap.size wr wN); have k1 := (hZ.cell (cell_lt k0)).trans k0; have e2 := Nat.ne_of_gt (cell_lt k1); (try (have n0 := BN.cell 0 (v := .string ⟨#[]⟩) rfl; have m0 := BN.frozen 0; have n1 := BN.cell 1 (v := .string ⟨#[]⟩) rfl; have m1 := BN.frozen 1))))
          all_goals go_wp2_with fail
          all_goals go_meet
          all_goals have hcb : bd 6 36 (Rat.divInt (k - 6) (1 + l)) := coef_bd (by omega) (by omega) (by omega) (by omega)
          all_goals unfold BoxOut
          all_goals first
            | (with_reducible exact ⟨_, _, ⟨rfl, Blk.new _ _ _, below_up hZ (below1 _ _)⟩, hcb⟩)
            | (refine ⟨_, _, ⟨rfl, (BN.set 0 (.string (numT (some (Rat.divInt (k - 6) (1 + l)))))).set 1 (.string (denT (some (Rat.divInt (k - 6) (1 + l))))), ?_⟩, hcb⟩; exact (hZ.setCell hg _).setCell hg _)
        case rest =>
          obtain ⟨g, q, ⟨rfl, Bg, hp⟩, hq⟩ := hcut
          have c0 := Bg.cell 0 (v := .string (numT (some q))) rfl
          have c1 := Bg.cell 1 (v := .string (denT (some q))) rfl
          have HR1 := Lib.hid (HR.out.below hp)
          have HQ := Lib.hid hq
          have hB1 := below_up hB hp
          have hl5 : lq.length ≤ 1000 := by rw [HLQ.out]; omega
          clear hp hq
          go_wp2_with (at_builtin; refine app_rat rfl (.tmp 34) (.tmp 36) Tryz.underlying24 rfl w.heap.size _ lq q rfl HR1.out rfl hl5 (hB1.size) ?_; intro v' wA hRA hBA; have hB2 := hBA _ _ hB1 (Nat.le_refl _); have HRA := Lib.hid hRA; clear hRA hBA)
          all_goals go_roundg (5 - (j + 1))
          all_goals first | omega | exact ⟨j + 1, lq ++ [q], by go_num, by rw [List.length_append, HLQ.out]; rfl, by omega, by omega, by omega, HRA.out, bdL_snoc HBD.out HQ.out, hB2⟩
      · have hgi : (j : Int) < n := by omega
        have hgi5 : ¬ (j : Int) < 5 := by omega
        have hfi : ∀ i, fitQ (cf lq i) := fun i => bd36_fit (hbd i)
        have CT := Lib.hid (rtrimmed_any wr (hR.pv (by omega) hfi))
        have HIN := Lib.hid (show In (trimP lq) ∧ (trimP lq).length ≤ n from ⟨trim_in (l := lq) (by omega) hbd, Nat.le_trans (trim_len lq) (by omega)⟩)
        clear hR hbd hfi hlq
        generalize trimP lq = lt at *
        go_wp2_with (go_at_call 67; (with_reducible refine CT.out.mono ?_); rintro e w1 ⟨y, rfl, hy, hb⟩; have HY2 := Lib.hid hy; clear hy)
        go_ret
        exact ⟨_, HIN.out, y, rfl, HY2.out, below_up hB hb⟩
    · have hgi : ¬ (j : Int) < n := by omega
      have hfi : ∀ i, fitQ (cf lq i) := fun i => bd36_fit (hbd i)
      have CT := Lib.hid (rtrimmed_any wr (hR.pv (by omega) hfi))
      have HIN := Lib.hid (show In (trimP lq) ∧ (trimP lq).length ≤ n from ⟨trim_in (l := lq) (by omega) hbd, Nat.le_trans (trim_len lq) (by omega)⟩)
      clear hR hbd hfi hlq
      generalize trimP lq = lt at *
      go_wp2_with (go_at_call 67; (with_reducible refine CT.out.mono ?_); rintro e w1 ⟨y, rfl, hy, hb⟩; have HY2 := Lib.hid hy; clear hy)
      go_ret
      exact ⟨_, HIN.out, y, rfl, HY2.out, below_up hB hb⟩
theorem make_any {v : Value} (w : World) (hv : Rx w v) (hL : Laid w) :
    Calls Tryz.prog 18 #[v] w (fun e w' => ∃ l, In l ∧ RetL7 w l e w') := by
  have hv' := hv
  obtain ⟨A, n, c, f, rfl, -, -, -⟩ := hv
  exact (make_len w hv' hL).mono fun e w' ⟨l, h, k⟩ => ⟨l, h.1, k⟩
/-- The first k of a slice of integers. -/
theorem Rx.take {w : World} {A : Option Addr} {n c : Nat} (h : Rx w (.slice A n c)) (k c' : Nat) (hk : k ≤ n) : Rx w (.slice A k c') := by
  obtain ⟨A', n', c2, f, e, hm2, hx, hxs⟩ := h
  obtain ⟨rfl, rfl, rfl⟩ : A = A' ∧ n = n' ∧ c = c2 := by simp at e; exact ⟨e.1, e.2.1, e.2.2⟩
  refine ⟨A, k, c', f, rfl, by omega, fun h0 => ?_, fun j hj => hxs j (by omega)⟩
  obtain ⟨b, o, hA, hy⟩ := hx (by omega)
  exact ⟨b, o, hA, fun j hj => hy j (by omega)⟩

end Go.Proofs.YtffndcjmabjhiaaGreatDoor
