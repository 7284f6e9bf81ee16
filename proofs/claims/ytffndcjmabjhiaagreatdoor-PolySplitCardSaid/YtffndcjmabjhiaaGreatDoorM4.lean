/- Division of polynomials. Conditions: the tables of strconv; no operation fails. -/
import Derived.Test.YtffndcjmabjhiaaGreatDoorM3
import Derived.Deep.RegionLaw
namespace Go.Proofs.YtffndcjmabjhiaaGreatDoor
open Go.RowKit Num
open Go.Shelf

theorem take_parts {f : Rat} {s k : Nat} {q l l' : List Rat} (h : takeO f s q k l = some l') : ∃ m d, mulQ f (cf q k) = some m ∧ subQ (cf l (s + k)) m = some d ∧ l' = l.set (s + k) d := by
  unfold takeO at h
  obtain ⟨m, h1, h2⟩ := Option.bind_eq_some_iff.1 h
  obtain ⟨d, h3, h4⟩ := Option.bind_eq_some_iff.1 h2
  cases h4
  exact ⟨m, d, h1, h3, rfl⟩
theorem off_more {f : Rat} {s : Nat} {q l l' : List Rat} {n : Nat} (h : offO f s q n l = some l') {k : Nat} (hk : k ≤ n) : ∃ l2, offO f s q k l = some l2 := by
  cases hr : offO f s q k l with
  | none => rw [off_none hr hk] at h; cases h
  | some l2 => exact ⟨l2, rfl⟩
theorem div_short {q u r : List Rat} (h : r.length < q.length) : ∀ k, divO q k u r = some (u, r)
  | 0 => rfl
  | k + 1 => by show (if _ then _ else _) = _; rw [if_pos h]
theorem div_step {q u r : List Rat} {k : Nat} {z : List Rat × List Rat} (h : divO q (k + 1) u r = some z) (hl : ¬ r.length < q.length) :
    ∃ f r', divQ (cf r (r.length - 1)) (cf q (q.length - 1)) = some f ∧ offO f (r.length - q.length) q (q.length - 1) r = some r' ∧ divO q k (u.set (r.length - q.length) f) (trimP (r'.take (r.length - 1))) = some z := by
  have h' : (if r.length < q.length then some (u, r) else (divQ (cf r (r.length - 1)) (cf q (q.length - 1))).bind fun f => (offO f (r.length - q.length) q (q.length - 1) r).bind fun r' => divO q k (u.set (r.length - q.length) f) (trimP (r'.take (r.length - 1)))) = some z := h
  rw [if_neg hl] at h'
  obtain ⟨f, h1, h2⟩ := Option.bind_eq_some_iff.1 h'
  obtain ⟨r', h3, h4⟩ := Option.bind_eq_some_iff.1 h2
  exact ⟨f, r', h1, h3, h4⟩
theorem cf_take_lt {l : List Rat} {n i : Nat} (h : i < n) : cf (l.take n) i = cf l i := by rw [cf_take, if_pos h]
theorem set_take (l : List Rat) (n i : Nat) (a : Rat) : (l.set i a).take n = (l.take n).set i a := by rw [List.take_set]
theorem RowR.other {w : World} {B : Nat} {v : Value} {l : List Rat} (h : RowR w B v l) {Q : Nat} (hQ : Q < B) (j : Nat) (u : Value) : RowR (w.setCell ⟨Q, j, none⟩ u) B v l := by
  obtain ⟨h1, h2⟩ := h
  rcases h2 with ⟨rfl, hn⟩ | ⟨g, cap, cur, rfl, hg, hh, hl, hc, hcap, h3⟩
  · exact ⟨h1, .inl ⟨rfl, hn⟩⟩
  · exact ⟨h1, .inr ⟨g, cap, cur, rfl, hg, (Below.heap_setCell _ _ _ _ (show g ≠ Q by omega)).trans hh, hl, hc, hcap, h3⟩⟩
/-- The call returns a quotient and a remainder. -/
def RetP2 (w : World) (p q : List Rat) (e : Ending) (w' : World) : Prop := ∃ a b, e = .returned (.agg #[a, b]) ∧ Pv w' a p ∧ Pv w' b q ∧ Below w.heap.size w w'
/-- What stands in memory between two rounds of the division. -/
structure DivM (w wr : World) (B4 gr go gq n c : Nat) (u r big : List Rat) (rest : List Value) : Prop where
  ob : Blk wr go 125 [.slice (some ⟨gq, 0, none⟩) n n, .slice (some ⟨gr, 0, none⟩) r.length c]
  zb : Blk wr B4 125 [.slice none 0 0, .slice none 0 0]
  qb : PB wr gq u []
  un : u.length = n
  uf : ∀ i, fitQ (cf u i)
  rb : PB wr gr big rest
  rt : big.take r.length = r
  rl : r.length ≤ big.length
  rc : r.length ≤ c
  bf : ∀ i, fitQ (cf big i)
  bl : big.length ≤ 13
  low : Below w.heap.size w wr
theorem DivM.below {w wr W : World} {B4 gr go gq n c : Nat} {u r big : List Rat} {rest : List Value} (h : DivM w wr B4 gr go gq n c u r big rest) (hb : Below wr.heap.size wr W) : DivM w W B4 gr go gq n c u r big rest :=
  ⟨h.ob.below hb, h.zb.below hb, h.qb.below hb, h.un, h.uf, h.rb.below hb, h.rt, h.rl, h.rc, h.bf, h.bl, below_up h.low hb⟩
/-- A coefficient of the quotient is stored. -/
theorem DivM.quo {w wr : World} {B4 gr go gq n c : Nat} {u r big : List Rat} {rest : List Value} (h : DivM w wr B4 gr go gq n c u r big rest) (h1 : B4 < gr) (h2 : gr < go) (h3 : go < gq) (hw : w.heap.size ≤ B4) (s : Nat) (hs : s < n) (f : Rat) (hf : fitQ f) :
    DivM w ((wr.setCell ⟨gq, s * 2, none⟩ (.string (numT (some f)))).setCell ⟨gq, s * 2 + 1, none⟩ (.string (denT (some f)))) B4 gr go gq n c (u.set s f) r big rest :=
  ⟨(h.ob.other (by omega) _ _).other (by omega) _ _, (h.zb.other (by omega) _ _).other (by omega) _ _, h.qb.set s (by rw [h.un]; exact hs) f, by rw [List.length_set]; exact h.un, fit_set h.uf hf,
    (Blk.other h.rb (by omega) _ _).other (by omega) _ _, h.rt, h.rl, h.rc, h.bf, h.bl, (h.low.setCell (by dsimp; omega) _).setCell (by dsimp; omega) _⟩
/-- A coefficient of the remainder is stored. -/
theorem DivM.rem {w wr : World} {B4 gr go gq n c : Nat} {u r big : List Rat} {rest : List Value} (h : DivM w wr B4 gr go gq n c u r big rest) (h1 : B4 < gr) (h2 : gr < go) (h3 : go < gq) (hw : w.heap.size ≤ B4) (j : Nat) (hj : j < r.length) (d : Rat) (hd : fitQ d) :
    DivM w ((wr.setCell ⟨gr, j * 2, none⟩ (.string (numT (some d)))).setCell ⟨gr, j * 2 + 1, none⟩ (.string (denT (some d)))) B4 gr go gq n c u (r.set j d) (big.set j d) rest :=
  ⟨by rw [List.length_set]; exact (h.ob.other (by omega) _ _).other (by omega) _ _, (h.zb.other (by omega) _ _).other (by omega) _ _, (Blk.other h.qb (by omega) _ _).other (by omega) _ _, h.un, h.uf,
    PB.set h.rb j (Nat.lt_of_lt_of_le hj h.rl) d, by rw [List.length_set, set_take, h.rt], by rw [List.length_set, List.length_set]; exact h.rl, by rw [List.length_set]; exact h.rc, fit_set h.bf hd, by rw [List.length_set]; exact h.bl, (h.low.setCell (by dsimp; omega) _).setCell (by dsimp; omega) _⟩
theorem DivM.pv {w wr : World} {B4 gr go gq n c : Nat} {u r big : List Rat} {rest : List Value} (h : DivM w wr B4 gr go gq n c u r big rest) : Pv wr (.slice (some ⟨gr, 0, none⟩) r.length c) r := by
  have hb := h.bl
  have := h.rb.pv r.length c h.rl h.rc (by omega) h.bf
  rwa [h.rt] at this
theorem DivM.atc {w wr : World} {B4 gr go gq n c : Nat} {u r big : List Rat} {rest : List Value} (h : DivM w wr B4 gr go gq n c u r big rest) (j : Nat) (hj : j < r.length) : wr.cell? ⟨gr, j * 2, none⟩ = some (.string (numT (some (cf r j)))) ∧ wr.cell? ⟨gr, j * 2 + 1, none⟩ = some (.string (denT (some (cf r j)))) := by
  have := h.rb.cell j (Nat.lt_of_lt_of_le hj h.rl)
  rw [← h.rt, cf_take_lt hj]
  exact this
theorem DivM.rfit {w wr : World} {B4 gr go gq n c : Nat} {u r big : List Rat} {rest : List Value} (h : DivM w wr B4 gr go gq n c u r big rest) (i : Nat) : fitQ (cf r i) := h.pv.fit i

set_option maxHeartbeats 4000000 in
set_option maxRecDepth 100000 in
theorem pby_any {v y : Value} {p q uq ur : List Rat} (w : World) (hv : Pv w v p) (hu : Pv w y q) (hp : p.length ≤ 13) (hr : byO p q = some (uq, ur)) (hL : Laid w) :
    Calls Tryz.prog 76 #[v, y] w (RetP2 w uq ur) := by
  have hq0 : q ≠ [] := fun c => by unfold byO at hr; rw [if_pos c] at hr; cases hr
  have hd : divO q p.length (List.replicate (p.length + 1 - q.length) 0) p = some (uq, ur) := by unfold byO at hr; rwa [if_neg hq0] at hr
  have hq1 : 0 < q.length := List.length_pos_iff.2 hq0
  have hqi : (q.length : Int) > 0 := by omega
  have HPF := Lib.hid hv.fit
  have HU := Lib.hid hu
  have HL0 := Lib.hid hL
  have M := Lib.hid (fun w => must_true w)
  have CC := Lib.hid (fun (W : World) (hb : Below w.heap.size w W) => clone_any W (hv.below hb))
  have HCP := Lib.hid (fun (W : World) (hb : Below w.heap.size w W) => hv.below hb)
  have K : Hid (∀ (w : World), Laid w → Calls Tryz.prog 62 #[.int .i64 0] w (RetR w 0)) := Lib.hid (fun w hL => whole_any 0 (by decide) (by decide) w hL)
  obtain ⟨A, c, rfl, hc, hm, hx⟩ := hv
  obtain ⟨A', c', rfl, hc', hm', hx'⟩ := hu
  obtain ⟨bq, oq, rfl, hy'⟩ := hx' hq1
  have HQ := Lib.hid hy'
  have hmq := hm'.1
  have hcq := hc'.1
  clear hr hc hm hx hm' hx' hy' hc'
  have hB : Below w.heap.size w w := Below.refl _ _
  have hmixed : Tryz.prog.follows .mixedOrders = true := by kernel_rfl
  have b4 := below1 w (.cells #[.slice none 0 0, .slice none 0 0] 125)
  have Z4 := Blk.new w 125 [.slice none 0 0, .slice none 0 0]
  have hw1 : IntKind.i64.wrap ((p.length : Int) - (q.length : Int)) = (p.length : Int) - q.length := IntWalk.i64_in _ (by omega)
  have hw2 : IntKind.i64.wrap ((p.length : Int) - (q.length : Int) + 1) = (p.length : Int) - q.length + 1 := IntWalk.i64_in _ (by omega)
  by_cases hn : q.length ≤ p.length
  rotate_left
  · rw [div_short (by omega)] at hd
    rw [show p.length + 1 - q.length = 0 by omega] at hd
    obtain ⟨rfl, rfl⟩ := Prod.mk.inj (Option.some.inj hd)
    have hni : ¬ ((p.length : Int) - q.length + 1 > 0) := by omega
    have hnl : ¬ ((p.length : Int) ≥ q.length) := by omega
    have HZ2 := Lib.hid (fun (W : World) (h : Blk W w.heap.size 125 [.slice none 0 0, .slice none 0 0]) (x : Value) => h.alloc (.cells #[.slice none 0 0, x] 125))
    go_enter Tryz.func76, Tryz.ntmps76
    go_wp2_with (first
      | (go_at_call 53; refine (M.out _).mono ?_; rintro e w' ⟨rfl, hw⟩; rw [hw]; clear hw)
      | (go_at_call 72; (with_reducible refine (CC.out _ b4).mono ?_); rintro e w1 ⟨x, rfl, hrow, hb⟩; obtain ⟨Ax, cx, rfl, hx1, hx2, hx3⟩ := hrow.pv (by omega) HPF.out; clear hx1 hx2 hx3; have Z1 := Z4.below hb; replace hB := below_up b4 hb; clear hb; have Z2 := HZ2.out w1 Z1 (.slice Ax p.length cx); have z0 := Z2.cell 0 (v := .slice none 0 0) rfl; have z1 := Z2.cell 1 (v := .slice none 0 0) rfl; have f0 := Z2.frozen 0; have f1 := Z2.frozen 1))
    go_loopg [7] 0 (fun _ _ wr => wr = w1.alloc (.cells #[.slice none 0 0, .slice Ax p.length cx] 125))
    case atStart => rfl
    case round =>
    subst hrel
    go_wp2
    have ZF := (Z2.set 0 (.slice none 0 0)).set 1 (.slice Ax p.length cx)
    have e0 := ZF.cell 0 (v := .slice none 0 0) rfl
    have e1 := ZF.cell 1 (v := .slice Ax p.length cx) rfl
    refine bodyPost_ret (v := .agg #[.slice none 0 0, .slice Ax p.length cx]) (by simp [results, Tryz.results76, go_sem, e0, e1]) rfl ⟨_, _, rfl, Pv.nil _, ?_, ?_⟩
    · exact (((hrow.below (below1 w1 _)).other (by simp) 0 _).other (by simp) 1 _).pv (by omega) HPF.out
    · exact ((below_up hB (below1 w1 _)).setCell (by dsimp; omega) _).setCell (by dsimp; omega) _
  · obtain ⟨n, hnn⟩ : ∃ n, p.length + 1 - q.length = n := ⟨_, rfl⟩
    have hni : (p.length : Int) - q.length + 1 = n := by omega
    have hn0 : (n : Int) > 0 := by omega
    rw [hnn] at hd
    rw [hni] at hw2
    have hp0 : p ≠ [] := List.ne_nil_of_length_pos (by omega)
    have RP := Lib.hid (fun gz w hz => repeat_any n (by omega) (by omega) gz w hz)
    clear hqi
    have hqi : (q.length : Int) > 0 := by omega
    go_enter Tryz.func76, Tryz.ntmps76
    go_wp2_with (first
      | (go_at_call 53; refine (M.out _).mono ?_; rintro e w' ⟨rfl, hw⟩; rw [hw]; clear hw)
      | (go_at_call 72; (with_reducible refine (CC.out _ b4).mono ?_); rintro e w1 ⟨x, rfl, hrow, hb⟩; (obtain ⟨gr, cr, rest, rfl, hgr, hcr, hPr⟩ := hrow.pb hp0); clear hrow; have hgl := Blk.lt hPr; have Z1 := Z4.below hb; replace hB := below_up b4 hb; clear hb; have bo := below1 w1 (.cells #[.slice none 0 0, .slice (some ⟨gr, 0, none⟩) p.length cr] 125); have Bo := Blk.new w1 125 [.slice none 0 0, .slice (some ⟨gr, 0, none⟩) p.length cr]; replace hPr := hPr.below bo; replace Z1 := Z1.below bo; replace hB := below_up hB bo; clear bo)
      | (go_at_call 62; (with_reducible refine (K.out _ (HL0.out.below hB)).mono ?_); rintro e w2 ⟨rfl, hb⟩; replace Bo := Bo.below hb; replace hPr := hPr.below hb; replace Z1 := Z1.below hb; have hs2 := hb.size; replace hB := below_up hB hb; clear hb)
      | (go_at_call 170; (with_reducible refine (RP.out w2.heap.size _ (Blk.new w2 29 [.string (numT (some 0)), .string (denT (some 0))])).mono ?_); rintro e w3 ⟨rfl, hPq, hb⟩; replace hb := below_up (below1 w2 (.cells #[.string (numT (some 0)), .string (denT (some 0))] 29)) hb; replace Bo := Bo.below hb; replace hPr := hPr.below hb; replace Z1 := Z1.below hb; replace hB := below_up hB hb; clear hb; have f0 := Bo.frozen 0; have o0 := Bo.cell 0 (v := .slice none 0 0) rfl))
    have hsz2 : (w2.alloc (.cells #[.string (numT (some 0)), .string (denT (some 0))] 29)).heap.size = w2.heap.size + 1 := by simp
    rw [hsz2] at hPq
    rw [World.size_alloc] at hs2 hgr
    have D0 : DivM w (w3.setCell ⟨w1.heap.size, 0, none⟩ (.slice (some ⟨w2.heap.size + 1, 0, none⟩) n n)) w.heap.size gr w1.heap.size (w2.heap.size + 1) n cr (List.replicate n 0) p p rest :=
      ⟨Bo.set 0 _, Z1.other (by omega) _ _, Blk.other hPq (by omega) _ _, by simp, fun i => by rw [cf_replicate]; exact fit_zero, Blk.other hPr (by omega) _ _, List.take_length .., Nat.le_refl _, hcr, HPF.out, hp, hB.setCell (by dsimp; omega) _⟩
    obtain ⟨gq, hgq⟩ : ∃ g, w2.heap.size + 1 = g := ⟨_, rfl⟩
    obtain ⟨go, hgo⟩ : ∃ g, w1.heap.size = g := ⟨_, rfl⟩
    have h1 : w.heap.size < gr := by omega
    have h2 : gr < go := by omega
    have h3 : go < gq := by omega
    rw [hgq, hgo] at D0 ⊢
    have hpp : p.length ≤ p.length := Nat.le_refl _
    clear hB Bo o0 f0 Z1 hPr hPq hs2 hsz2 hgr hgl hgq hgo b4 Z4 CC HCP K RP M hw1 hw2 hcr
    go_loopg [7] p.length (fun k _ wr => ∃ (u r big : List Rat) (c2 : Nat), DivM w wr w.heap.size gr go gq n c2 u r big rest ∧ divO q k u r = some (uq, ur) ∧ r.length ≤ k ∧ r.length ≤ p.length)
    case atStart => exact ⟨_, p, p, cr, D0, hd, hpp, hpp⟩
    case round =>
      clear D0 hd
      obtain ⟨u, r, big, c2, D, hdk, hrk, hrp⟩ := hrel
      have HDK := Lib.hid hdk
      clear hdk
      have o0 := D.ob.cell 0 (v := .slice (some ⟨gq, 0, none⟩) n n) rfl
      have o1 := D.ob.cell 1 (v := .slice (some ⟨gr, 0, none⟩) r.length c2) rfl
      by_cases hlt : r.length < q.length
      · have hlti : ¬ ((r.length : Int) ≥ q.length) := by omega
        have hdk := HDK.out
        rw [div_short hlt] at hdk
        obtain ⟨rfl, rfl⟩ := Prod.mk.inj (Option.some.inj hdk)
        have z0 := D.zb.cell 0 (v := .slice none 0 0) rfl
        have z1 := D.zb.cell 1 (v := .slice none 0 0) rfl
        have f0 := D.zb.frozen 0
        have f1 := D.zb.frozen 1
        clear hdk HDK
        go_wp2
        have ZF := (D.zb.set 0 (.slice (some ⟨gq, 0, none⟩) n n)).set 1 (.slice (some ⟨gr, 0, none⟩) r.length c2)
        have e0 := ZF.cell 0 (v := .slice (some ⟨gq, 0, none⟩) n n) rfl
        have e1 := ZF.cell 1 (v := .slice (some ⟨gr, 0, none⟩) r.length c2) rfl
        refine bodyPost_ret (v := .agg #[.slice (some ⟨gq, 0, none⟩) n n, .slice (some ⟨gr, 0, none⟩) r.length c2]) (by simp [results, Tryz.results76, go_sem, e0, e1]) rfl ⟨_, _, rfl, ?_, ?_, ?_⟩
        · have hq2 := PB.pvAll (l := u) ((Blk.other (Blk.other D.qb (B := w.heap.size) (by omega) 0 (.slice (some ⟨gq, 0, none⟩) n n)) (B := w.heap.size) (by omega) 1 (.slice (some ⟨gr, 0, none⟩) r.length c2))) u.length (Nat.le_refl _) (by rw [D.un]; omega) D.uf
          rwa [D.un] at hq2
        · have hr2 := PB.pv (l := big) ((Blk.other (Blk.other D.rb (B := w.heap.size) (by omega) 0 (.slice (some ⟨gq, 0, none⟩) n n)) (B := w.heap.size) (by omega) 1 (.slice (some ⟨gr, 0, none⟩) r.length c2))) r.length c2 D.rl D.rc (by have := D.bl; omega) D.bf
          rwa [D.rt] at hr2
        · exact (D.low.setCell (by dsimp; omega) _).setCell (by dsimp; omega) _
      · have hlti : (r.length : Int) ≥ q.length := by omega
        obtain ⟨g', rfl⟩ : ∃ g', gk = g' + 1 := ⟨gk - 1, by omega⟩
        obtain ⟨f, r', hf1, hf2, hd2⟩ := div_step HDK.out hlt
        have HD2 := Lib.hid hd2
        have hff := divQ_fit hf1
        obtain ⟨s, hs⟩ : ∃ s, r.length - q.length = s := ⟨_, rfl⟩
        have hws : IntKind.i64.wrap ((r.length : Int) - q.length) = (s : Int) := by rw [IntWalk.i64_in _ (by omega)]; omega
        have hsn : s < n := by omega
        have hsni : (s : Int) < n := by omega
        rw [hs] at hf2 HD2
        have CL1 := Lib.hid (lead_any wr D.pv (by omega))
        have CL2 := Lib.hid (fun (W : World) (hb : Below w.heap.size w W) => lead_any W (HU.out.below hb) hq1)
        have C3 := Lib.hid (fun W hL => pdiv_c (D.rfit _) (HU.out.fit _) hf1 W hL)
        have hwm : IntKind.i64.wrap ((q.length : Int) - 1) = ((q.length - 1 : Nat) : Int) := by rw [IntWalk.i64_in _ (by omega)]; omega
        have hm0 : (0 : Int) ≤ ((q.length - 1 : Nat) : Int) := by omega
        have hmc : ((q.length - 1 : Nat) : Int) ≤ c' := by omega
        have hwR : IntKind.i64.wrap ((r.length : Int) - 1) = ((r.length - 1 : Nat) : Int) := by rw [IntWalk.i64_in _ (by omega)]; omega
        clear hf1 hd2 HDK
        generalize hm : q.length - 1 = m at *
        generalize hR1 : r.length - 1 = R1 at *
        generalize cf r R1 = ra at *
        generalize cf q m = qa at *
        have HDQ := Lib.hid (fun (W : World) (D : DivM w W w.heap.size gr go gq n c2 u r big rest) => D.quo h1 h2 h3 (Nat.le_refl _) s hsn f hff)
        go_wp2_with (first
          | (go_at_call 171; (with_reducible refine CL1.out.mono ?_); clear CL1; rintro e w4 ⟨rfl, hb⟩; replace D := D.below hb; clear hb)
          | (go_at_call 171; (with_reducible refine (CL2.out _ D.low).mono ?_); clear CL2; rintro e w5 ⟨rfl, hb⟩; replace D := D.below hb; clear hb)
          | (go_at_call 60; (with_reducible refine (C3.out _ (HL0.out.below D.low)).mono ?_); clear C3; rintro e w6 ⟨rfl, hb⟩; replace D := D.below hb; clear hb o0 o1; have HG6 := Lib.hid (Blk.lt D.qb); have Bf := Blk.new w6 29 [.string (numT (some f)), .string (denT (some f))]; replace D := D.below (below1 w6 (.cells #[.string (numT (some f)), .string (denT (some f))] 29)); have o0 := D.ob.cell 0 (v := .slice (some ⟨gq, 0, none⟩) n n) rfl; have o1 := D.ob.cell 1 (v := .slice (some ⟨gr, 0, none⟩) r.length c2) rfl; have y0 := (D.qb.cell s (by rw [D.un]; exact hsn)).1; have y1 := (D.qb.cell s (by rw [D.un]; exact hsn)).2; have f0 := Blk.frozen D.qb (s * 2); have f1 := Blk.frozen D.qb (s * 2 + 1)))
        have hg6 := HG6.out
        have D9 := D.quo h1 h2 h3 (Nat.le_refl _) s hsn f hff
        have Bf9 := (Bf.other (B := gq) (by omega) (s * 2) (.string (numT (some f)))).other (B := gq) (by omega) (s * 2 + 1) (.string (denT (some f)))
        clear D Bf o0 o1 y0 y1 f0 f1 HDQ
        go_loopg [60] m (fun z s60 wr => ∃ (k : Nat) (lk bigk : List Rat), s60 = .int .i64 k ∧ k ≤ m ∧ m ≤ z + k ∧ offO f s q k r = some lk ∧ DivM w wr w.heap.size gr go gq n c2 (u.set s f) lk bigk rest ∧ Blk wr w6.heap.size 29 [.string (numT (some f)), .string (denT (some f))])
        case atStart => exact ⟨0, r, big, rfl, by omega, by omega, rfl, D9, Bf9⟩
        case round =>
          clear D9 Bf9
          obtain ⟨k, lk, bigk, rfl, hkm, hkz, hrk, D, Bf⟩ := hrel
          have hlk := off_len hrk
          by_cases hgk : k < m
          · have hgki : (k : Int) < m := by omega
            obtain ⟨l2, hl2⟩ := off_more hf2 (k := k + 1) (by omega)
            have hst : takeO f s q k lk = some l2 := (off_step hrk).symm.trans hl2
            obtain ⟨mv, d, hm1, hm2, rfl⟩ := take_parts hst
            have k0 := (D.low.cell (cell_lt (HQ.out k (by omega)).1)).trans (HQ.out k (by omega)).1
            have k1 := (D.low.cell (cell_lt (HQ.out k (by omega)).2)).trans (HQ.out k (by omega)).2
            have hsk : s + k < lk.length := by omega
            have hskl : (s : Int) + (k : Int) < lk.length := by omega
            have ht : ((s : Int) + (k : Int)).toNat = s + k := by omega
            have hsk0 : (0 : Int) ≤ (s : Int) + (k : Int) := by omega
            have hw : IntKind.i64.wrap ((s : Int) + (k : Int)) = (s : Int) + (k : Int) := IntWalk.i64_in _ (by omega)
            have C1 := Lib.hid (fun w hL => pmul_c hff (HU.out.fit k) hm1 w hL)
            have C2 := Lib.hid (fun w hL => psub_c (D.rfit (s + k)) (mulQ_fit hm1) hm2 w hL)
            have hdf := subQ_fit hm2
            have HL2 := Lib.hid hl2
            clear hm1 hm2 hst hl2
            have hx := fun (W : World) (D : DivM w W w.heap.size gr go gq n c2 (u.set s f) lk bigk rest) => D.atc (s + k) hsk
            generalize cf lk (s + k) = x at *
            generalize cf q k = qb at *
            have ba := below1 wr (.cells #[.string (numT (some qb)), .string (denT (some qb))] 29)
            have D2 := D.below ba
            have Bf2 := Bf.below ba
            have Bb2 := Blk.new wr 29 [.string (numT (some qb)), .string (denT (some qb))]
            go_upto_region 13 with fail
            generalize hwq : wr.alloc (.cells #[.string (numT (some qb)), .string (denT (some qb))] 29) = wq at *
            clear k0 k1
            have hZ : Below wq.heap.size wq wq.drew := (Below.refl _ _).drew
            have hDN := D2.below hZ
            have o1 := hDN.ob.cell 1 (v := .slice (some ⟨gr, 0, none⟩) lk.length c2) rfl
            have x0 := (hx _ hDN).1
            have x1 := (hx _ hDN).2
            have a0 := (Bf2.below hZ).cell 0 (v := .string (numT (some f))) rfl
            have a1 := (Bf2.below hZ).cell 1 (v := .string (denT (some f))) rfl
            have b0 := (Bb2.below hZ).cell 0 (v := .string (numT (some qb))) rfl
            have b1 := (Bb2.below hZ).cell 1 (v := .string (denT (some qb))) rfl
            have f0 := Blk.frozen hDN.rb ((s + k) * 2)
            have f1 := Blk.frozen hDN.rb ((s + k) * 2 + 1)
            have n1 : go ≠ gr := by omega
            have n2 : w6.heap.size ≠ gr := by omega
            have n3 : wr.heap.size ≠ gr := by have := Blk.lt Bf; omega
            have n4 := n1.symm
            have n5 := n2.symm
            have n6 := n3.symm
            have HLK := Lib.hid hlk
            clear hlk
            refine wp_region_held_drew (S := fun w' => w'.cell? ⟨go, 1, none⟩ = some (.slice (some ⟨gr, 0, none⟩) lk.length c2) ∧ w'.cell? ⟨w6.heap.size, 0, none⟩ = some (.string (numT (some f))) ∧ w'.cell? ⟨w6.heap.size, 1, none⟩ = some (.string (denT (some f))) ∧ w'.cell? ⟨wr.heap.size, 0, none⟩ = some (.string (numT (some qb))) ∧ w'.cell? ⟨wr.heap.size, 1, none⟩ = some (.string (denT (some qb)))) (by kernel_rfl) (by go_keep) (fun hHeld => ?_)
            refine wpAnyH_take (i := 0) (v := ?v1) rfl (by kernel_rfl) (by kernel_rfl) (by kernel_rfl) (fun _ _ _ h => h) (Or.inl ⟨by rfl, ?hy1⟩) (by assumption) ?r1
            case hy1 => (intro w hSw; (try dsimp only at hSw); go_simp; try with_reducible rfl)
            (try simp only [Act.put, List.setIfInBounds_toArray])
            refine wpAnyH_take (i := 1) (v := ?v2) rfl (by kernel_rfl) (by kernel_rfl) (by kernel_rfl) (fun _ _ _ h => h) (Or.inl ⟨by rfl, ?hy2⟩) (by assumption) ?r2
            case hy2 => (intro w hSw; (try dsimp only at hSw); go_simp; try with_reducible rfl)
            (try simp only [Act.put])
            refine wpAnyH_take (i := 2) (v := ?v3) rfl (by kernel_rfl) (by kernel_rfl) (by kernel_rfl) (fun _ _ _ h => h) (Or.inl ⟨by rfl, ?hy3⟩) (by assumption) ?r3
            case hy3 => (intro w hSw; (try dsimp only at hSw); go_simp; try with_reducible rfl)
            (try simp only [Act.put])
            refine wpAnyH_take (i := 3) (v := ?v4) rfl (by kernel_rfl) (by kernel_rfl) (by kernel_rfl) (fun _ _ _ h => h) (Or.inl ⟨by rfl, ?hy4⟩) (by assumption) ?r4
            case hy4 => (intro w hSw; (try dsimp only at hSw); go_simp; try with_reducible rfl)
            (try simp only [Act.put])
            refine wpAnyH_take (i := 4) (v := ?v5) rfl (by kernel_rfl) (by kernel_rfl) (by kernel_rfl) (fun _ _ _ h => h) (Or.inl ⟨by rfl, ?hy5⟩) (by assumption) ?r5
            case hy5 => (intro w hSw; (try dsimp only at hSw); go_simp; try with_reducible rfl)
            (try simp only [Act.put])
            refine wpAnyH_take (i := 5) (v := ?v6) rfl (by kernel_rfl) (by kernel_rfl) (by kernel_rfl) (fun _ _ _ h => h) (Or.inl ⟨by rfl, ?hy6⟩) (by assumption) ?r6
            case hy6 => (intro w hSw; (try dsimp only at hSw); go_simp; try with_reducible rfl)
            (try simp only [Act.put])
            refine wpAnyH_take (i := 6) (v := ?v7) rfl (by kernel_rfl) (by kernel_rfl) (by kernel_rfl) (fun _ _ _ h => h) (Or.inl ⟨by rfl, ?hy7⟩) (by assumption) ?r7
            case hy7 => (intro w hSw; (try dsimp only at hSw); go_simp; try with_reducible rfl)
            (try simp only [Act.put])
            refine wpAnyH_take (i := 7) (v := ?v8) rfl (by kernel_rfl) (by kernel_rfl) (by kernel_rfl) (fun _ _ _ h => h) (Or.inl ⟨by rfl, ?hy8⟩) (by assumption) ?r8
            case hy8 => (intro w hSw; (try dsimp only at hSw); go_simp; try with_reducible rfl)
            (try simp only [Act.put])
            refine wpAnyH_take (i := 8) (v := ?v9) rfl (by kernel_rfl) (by kernel_rfl) (by kernel_rfl) (fun _ _ _ h => h) (Or.inl ⟨by rfl, ?hy9⟩) (by assumption) ?r9
            case hy9 => (intro w hSw; (try dsimp only at hSw); go_simp; try with_reducible rfl)
            (try simp only [Act.put])
            refine wpAnyH_take (i := 9) (v := ?v10) rfl (by kernel_rfl) (by kernel_rfl) (by kernel_rfl) (fun _ _ _ h => h) (Or.inl ⟨by rfl, ?hy10⟩) (by assumption) ?r10
            case hy10 => (intro w hSw; (try dsimp only at hSw); go_simp; try with_reducible rfl)
            (try simp only [Act.put])
            refine wpAnyH_take (i := 10) (v := ?v11) rfl (by kernel_rfl) (by kernel_rfl) (by kernel_rfl) (fun _ _ _ h => h) (Or.inl ⟨by rfl, ?hy11⟩) (by assumption) ?r11
            case hy11 => (intro w hSw; (try dsimp only at hSw); go_simp; try with_reducible rfl)
            (try simp only [Act.put])
            refine wpAnyH_take (i := 12) (v := ?v12) rfl (by kernel_rfl) (by kernel_rfl) (by kernel_rfl) (fun _ _ _ h => h) (Or.inl ⟨by rfl, ?hy12⟩) (by assumption) ?r12
            case hy12 => (intro w hSw; (try dsimp only at hSw); go_simp; try with_reducible rfl)
            (try simp only [Act.put])
            refine wpAnyH_take (i := 13) (v := ?v13) rfl (by kernel_rfl) (by kernel_rfl) (by kernel_rfl) (fun _ _ _ h => h) (Or.inl ⟨by rfl, ?hy13⟩) (by assumption) ?r13
            case hy13 => (intro w hSw; (try dsimp only at hSw); go_simp; try with_reducible rfl)
            (try simp only [Act.put])
            refine wpAnyH_ready (rs := [11, 14]) (by kernel_rfl) (by simp) ?_
            refine AllReadyH.cons (o := ?o14) ?ho14 (fun K hK => ?st14) ?mo14
            case ho14 => (simp only [List.getElem?_toArray, List.getElem?_cons_succ, List.getElem?_cons_zero]; rfl)
            case st14 =>
              go_simp
              refine hK.out _ _ ?_ (fun hHeld => ?_)
              · ((try dsimp only); go_keep)
              clear hK K
              (try simp only [Act.put, List.setIfInBounds_toArray, List.set_cons_zero, List.set_cons_succ])
              refine wpAnyH_ready (rs := [14]) (by kernel_rfl) (by simp) ?_
              refine AllReadyH.cons (o := ?o15) ?ho15 (fun K hK => ?st15) ?mo15
              case ho15 => (simp only [List.getElem?_toArray, List.getElem?_cons_succ, List.getElem?_cons_zero]; rfl)
              case st15 =>
                go_simp
                (go_at_call 168; (with_reducible refine (C1.out _ (HL0.out.below hDN.low)).mono ?_); rintro e wN ⟨rfl, hb⟩; have hZ := below_up hZ hb; have o1 := (hb.cell (cell_lt o1)).trans o1; have x0 := (hb.cell (cell_lt x0)).trans x0; have x1 := (hb.cell (cell_lt x1)).trans x1; have a0 := (hb.cell (cell_lt a0)).trans a0; have a1 := (hb.cell (cell_lt a1)).trans a1; have b0 := (hb.cell (cell_lt b0)).trans b0; have b1 := (hb.cell (cell_lt b1)).trans b1; have hDN := hDN.below hb; have f0 := Blk.frozen hDN.rb ((s + k) * 2); have f1 := Blk.frozen hDN.rb ((s + k) * 2 + 1))
                (try go_wp2_with fail)
                refine hK.out _ _ ?_ (fun hHeld => ?_)
                · ((try dsimp only); go_keep)
                clear hK K
                (try simp only [Act.put, List.setIfInBounds_toArray, List.set_cons_zero, List.set_cons_succ])
                refine wpAnyH_ready (rs := [15]) (by kernel_rfl) (by simp) ?_
                refine AllReadyH.cons (o := ?o16) ?ho16 (fun K hK => ?st16) ?mo16
                case ho16 => (simp only [List.getElem?_toArray, List.getElem?_cons_succ, List.getElem?_cons_zero]; rfl)
                case st16 =>
                  go_simp
                  (go_at_call 58; (with_reducible refine (C2.out _ (HL0.out.below hDN.low)).mono ?_); rintro e wN ⟨rfl, hb⟩; have hZ := below_up hZ hb; have o1 := (hb.cell (cell_lt o1)).trans o1; have x0 := (hb.cell (cell_lt x0)).trans x0; have x1 := (hb.cell (cell_lt x1)).trans x1; have a0 := (hb.cell (cell_lt a0)).trans a0; have a1 := (hb.cell (cell_lt a1)).trans a1; have b0 := (hb.cell (cell_lt b0)).trans b0; have b1 := (hb.cell (cell_lt b1)).trans b1; have hDN := hDN.below hb; have f0 := Blk.frozen hDN.rb ((s + k) * 2); have f1 := Blk.frozen hDN.rb ((s + k) * 2 + 1))
                  (try go_wp2_with fail)
                  refine hK.out _ _ ?_ (fun hHeld => ?_)
                  · ((try dsimp only); go_keep)
                  clear hK K
                  (try simp only [Act.put, List.setIfInBounds_toArray, List.set_cons_zero, List.set_cons_succ])
                  refine wpAnyH_take (i := 16) (v := ?v17) rfl (by kernel_rfl) (by kernel_rfl) (by kernel_rfl) (fun _ _ _ h => h) (Or.inl ⟨by rfl, ?hy17⟩) (by assumption) ?r17
                  case hy17 => (intro w hSw; (try dsimp only at hSw); go_simp; try with_reducible rfl)
                  (try simp only [Act.put, List.setIfInBounds_toArray])
                  refine wpAnyH_ready (rs := [17]) (by kernel_rfl) (by simp) ?_
                  refine AllReadyH.cons (o := ?o18) ?ho18 (fun K hK => ?st18) ?mo18
                  case ho18 => (simp only [List.getElem?_toArray, List.getElem?_cons_succ, List.getElem?_cons_zero]; rfl)
                  case st18 =>
                    go_simp
                    refine hK.out _ _ ?_ (fun hHeld => ?_)
                    · ((try dsimp only); go_keep)
                    clear hK K
                    (try simp only [Act.put, List.setIfInBounds_toArray, List.set_cons_zero, List.set_cons_succ])
                    refine wpAnyH_done (by kernel_rfl) ?_ _
                    go_wp2
                    go_roundg (m - (k + 1))
                    all_goals first | omega | exact ⟨k + 1, _, _, by go_num, by omega, by omega, HL2.out, hDN.rem h1 h2 h3 (Nat.le_refl _) (s + k) hsk d hdf, ((Bf2.below hZ).other (by omega) _ _).other (by omega) _ _⟩
                  case mo18 => exact AllReadyH.nil
                case mo16 => exact AllReadyH.nil
              case mo15 => exact AllReadyH.nil
            case mo14 =>
              refine AllReadyH.cons (o := ?o19) ?ho19 (fun K hK => ?st19) ?mo19
              case ho19 => (simp only [List.getElem?_toArray, List.getElem?_cons_succ, List.getElem?_cons_zero]; rfl)
              case st19 =>
                go_simp
                (go_at_call 168; (with_reducible refine (C1.out _ (HL0.out.below hDN.low)).mono ?_); rintro e wN ⟨rfl, hb⟩; have hZ := below_up hZ hb; have o1 := (hb.cell (cell_lt o1)).trans o1; have x0 := (hb.cell (cell_lt x0)).trans x0; have x1 := (hb.cell (cell_lt x1)).trans x1; have a0 := (hb.cell (cell_lt a0)).trans a0; have a1 := (hb.cell (cell_lt a1)).trans a1; have b0 := (hb.cell (cell_lt b0)).trans b0; have b1 := (hb.cell (cell_lt b1)).trans b1; have hDN := hDN.below hb; have f0 := Blk.frozen hDN.rb ((s + k) * 2); have f1 := Blk.frozen hDN.rb ((s + k) * 2 + 1))
                (try go_wp2_with fail)
                refine hK.out _ _ ?_ (fun hHeld => ?_)
                · ((try dsimp only); go_keep)
                clear hK K
                (try simp only [Act.put, List.setIfInBounds_toArray, List.set_cons_zero, List.set_cons_succ])
                refine wpAnyH_ready (rs := [11]) (by kernel_rfl) (by simp) ?_
                refine AllReadyH.cons (o := ?o20) ?ho20 (fun K hK => ?st20) ?mo20
                case ho20 => (simp only [List.getElem?_toArray, List.getElem?_cons_succ, List.getElem?_cons_zero]; rfl)
                case st20 =>
                  go_simp
                  refine hK.out _ _ ?_ (fun hHeld => ?_)
                  · ((try dsimp only); go_keep)
                  clear hK K
                  (try simp only [Act.put, List.setIfInBounds_toArray, List.set_cons_zero, List.set_cons_succ])
                  refine wpAnyH_ready (rs := [15]) (by kernel_rfl) (by simp) ?_
                  refine AllReadyH.cons (o := ?o21) ?ho21 (fun K hK => ?st21) ?mo21
                  case ho21 => (simp only [List.getElem?_toArray, List.getElem?_cons_succ, List.getElem?_cons_zero]; rfl)
                  case st21 =>
                    go_simp
                    (go_at_call 58; (with_reducible refine (C2.out _ (HL0.out.below hDN.low)).mono ?_); rintro e wN ⟨rfl, hb⟩; have hZ := below_up hZ hb; have o1 := (hb.cell (cell_lt o1)).trans o1; have x0 := (hb.cell (cell_lt x0)).trans x0; have x1 := (hb.cell (cell_lt x1)).trans x1; have a0 := (hb.cell (cell_lt a0)).trans a0; have a1 := (hb.cell (cell_lt a1)).trans a1; have b0 := (hb.cell (cell_lt b0)).trans b0; have b1 := (hb.cell (cell_lt b1)).trans b1; have hDN := hDN.below hb; have f0 := Blk.frozen hDN.rb ((s + k) * 2); have f1 := Blk.frozen hDN.rb ((s + k) * 2 + 1))
                    (try go_wp2_with fail)
                    refine hK.out _ _ ?_ (fun hHeld => ?_)
                    · ((try dsimp only); go_keep)
                    clear hK K
                    (try simp only [Act.put, List.setIfInBounds_toArray, List.set_cons_zero, List.set_cons_succ])
                    refine wpAnyH_take (i := 16) (v := ?v22) rfl (by kernel_rfl) (by kernel_rfl) (by kernel_rfl) (fun _ _ _ h => h) (Or.inl ⟨by rfl, ?hy22⟩) (by assumption) ?r22
                    case hy22 => (intro w hSw; (try dsimp only at hSw); go_simp; try with_reducible rfl)
                    (try simp only [Act.put, List.setIfInBounds_toArray])
                    refine wpAnyH_ready (rs := [17]) (by kernel_rfl) (by simp) ?_
                    refine AllReadyH.cons (o := ?o23) ?ho23 (fun K hK => ?st23) ?mo23
                    case ho23 => (simp only [List.getElem?_toArray, List.getElem?_cons_succ, List.getElem?_cons_zero]; rfl)
                    case st23 =>
                      go_simp
                      refine hK.out _ _ ?_ (fun hHeld => ?_)
                      · ((try dsimp only); go_keep)
                      clear hK K
                      (try simp only [Act.put, List.setIfInBounds_toArray, List.set_cons_zero, List.set_cons_succ])
                      refine wpAnyH_done (by kernel_rfl) ?_ _
                      go_wp2
                      go_roundg (m - (k + 1))
                      all_goals first | omega | exact ⟨k + 1, _, _, by go_num, by omega, by omega, HL2.out, hDN.rem h1 h2 h3 (Nat.le_refl _) (s + k) hsk d hdf, ((Bf2.below hZ).other (by omega) _ _).other (by omega) _ _⟩
                    case mo23 => exact AllReadyH.nil
                  case mo21 => exact AllReadyH.nil
                case mo20 => exact AllReadyH.nil
              case mo19 => exact AllReadyH.nil
          · obtain rfl : k = m := by omega
            obtain rfl : lk = r' := Option.some.inj (hrk.symm.trans hf2)
            clear hrk hf2 Bf
            have htk : lk.take R1 = bigk.take R1 := by
              have := D.rt
              rw [← this, List.take_take, show min R1 lk.length = R1 by omega]
            have hl1 : (lk.take R1).length = R1 := by rw [List.length_take]; omega
            have hbl := D.bl
            have hrl := D.rl
            have hrc := D.rc
            have hP := D.rb.pv R1 c2 (by omega) (by omega) (by omega) D.bf
            rw [← htk] at hP
            have hT := ptrimmed_any (A := some ⟨gr, 0, none⟩) (c := c2) (l := lk.take R1) wr (by rw [hl1]; exact hP) (by omega) (HL0.out.below D.low)
            rw [hl1] at hT
            have HT := Lib.hid hT
            have HTK := Lib.hid htk
            clear hT hP htk
            have o1 := D.ob.cell 1 (v := .slice (some ⟨gr, 0, none⟩) lk.length c2) rfl
            have hwR2 : IntKind.i64.wrap ((lk.length : Int) - 1) = (R1 : Int) := by rw [hlk]; exact hwR
            have hR0 : (0 : Int) ≤ (R1 : Int) := by omega
            have hRc : (R1 : Int) ≤ c2 := by omega
            go_wp2_with (go_at_call 172; (with_reducible refine HT.out.mono ?_); rintro e w7 ⟨rfl, htt, hb⟩; replace D := D.below hb; clear hb o1; have o1 := D.ob.cell 1 (v := .slice (some ⟨gr, 0, none⟩) lk.length c2) rfl; have f1 := D.ob.frozen 1)
            have htl := trim_len (lk.take R1)
            rw [hl1] at htl
            have htk := HTK.out
            have hrt : bigk.take (trimP (lk.take R1)).length = trimP (lk.take R1) := by
              rw [htk] at htt htl ⊢
              rwa [List.take_take, show min (trimP (bigk.take R1)).length R1 = (trimP (bigk.take R1)).length by omega] at htt
            have DN : DivM w (w7.setCell ⟨go, 1, none⟩ (.slice (some ⟨gr, 0, none⟩) (trimP (lk.take R1)).length (trimP (lk.take R1)).length)) w.heap.size gr go gq n (trimP (lk.take R1)).length (u.set s f) (trimP (lk.take R1)) bigk rest :=
              ⟨D.ob.set 1 _, D.zb.other (by omega) _ _, Blk.other D.qb (by omega) _ _, D.un, D.uf, Blk.other D.rb (by omega) _ _, hrt, by omega, Nat.le_refl _, D.bf, D.bl, D.low.setCell (by dsimp; omega) _⟩
            clear htk hrt htt HT
            go_roundg g'
            all_goals first | omega | exact ⟨_, _, bigk, _, DN, HD2.out, by omega, by omega⟩

end Go.Proofs.YtffndcjmabjhiaaGreatDoor
