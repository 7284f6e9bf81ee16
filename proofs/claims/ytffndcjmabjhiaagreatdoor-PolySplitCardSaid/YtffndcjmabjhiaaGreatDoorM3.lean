/- Products of polynomials. Conditions: the tables of strconv; no operation fails. slices.Clone of fractions; rows as blocks. Conditions: none. -/
import Derived.Test.YtffndcjmabjhiaaGreatDoorM2
import Derived.Deep.RegionHeld3
import Derived.Deep.RegionLaw
namespace Go.Proofs.YtffndcjmabjhiaaGreatDoor
open Go.RowKit Num
open Go.Shelf

theorem step_parts {a : Rat} {i k : Nat} {q l l' : List Rat} (h : stepO a i q k l = some l') : ∃ m s, mulQ a (cf q k) = some m ∧ addQ (cf l (i + k)) m = some s ∧ l' = l.set (i + k) s := by
  unfold stepO at h
  obtain ⟨m, h1, h2⟩ := Option.bind_eq_some_iff.1 h
  obtain ⟨s, h3, h4⟩ := Option.bind_eq_some_iff.1 h2
  cases h4
  exact ⟨m, s, h1, h3, rfl⟩
theorem fit_set {l : List Rat} {k : Nat} {s : Rat} (h : ∀ i, fitQ (cf l i)) (hs : fitQ s) (i : Nat) : fitQ (cf (l.set k s) i) := by
  by_cases hk : k < l.length
  · rw [cf_set _ _ _ hk]; split
    · exact hs
    · exact h i
  · rw [List.set_eq_of_length_le (by omega)]; exact h i
theorem step_fit {a : Rat} {i k : Nat} {q l l' : List Rat} (h : stepO a i q k l = some l') (hl : ∀ i, fitQ (cf l i)) : ∀ i, fitQ (cf l' i) := by
  obtain ⟨m, s, h1, h2, rfl⟩ := step_parts h
  exact fit_set hl (addQ_fit h2)
/-- What has been computed so far. -/
theorem times_at {p q r : List Rat} (h : timesO p q = some r) (hp : p ≠ []) (hq : q ≠ []) : p.length + q.length - 2 ≤ 12 ∧ ∃ l, rowsO p q p.length = some l ∧ r = trimP l := by
  unfold timesO at h
  rw [if_neg (fun c => by rcases c with c | c; exact hp c; exact hq c)] at h
  by_cases h12 : 12 < p.length + q.length - 2
  · rw [if_pos h12] at h; cases h
  · rw [if_neg h12] at h
    cases hr : rowsO p q p.length with
    | none => rw [hr] at h; cases h
    | some l => rw [hr] at h; exact ⟨by omega, l, rfl, (Option.some.inj h).symm⟩
theorem rows_more {p q l : List Rat} (h : rowsO p q p.length = some l) {i : Nat} (hi : i ≤ p.length) : ∃ l', rowsO p q i = some l' := by
  cases hr : rowsO p q i with
  | none => rw [rows_none hr hi] at h; cases h
  | some l' => exact ⟨l', rfl⟩
theorem row_more {a : Rat} {i : Nat} {q l l' : List Rat} (h : rowO a i q q.length l = some l') {k : Nat} (hk : k ≤ q.length) : ∃ l2, rowO a i q k l = some l2 := by
  cases hr : rowO a i q k l with
  | none => rw [row_none hr hk] at h; cases h
  | some l2 => exact ⟨l2, rfl⟩

set_option maxHeartbeats 4000000 in
set_option maxRecDepth 100000 in
theorem ptimes_any {v u : Value} {p q r : List Rat} (w : World) (hv : Pv w v p) (hu : Pv w u q) (hr : timesO p q = some r) (hL : Laid w) :
    Calls Tryz.prog 144 #[v, u] w (RetL7 w r) := by
  have HV := Lib.hid hv
  have HU := Lib.hid hu
  have HL0 := Lib.hid hL
  obtain ⟨A, c, rfl, hc, hm, hx⟩ := hv
  obtain ⟨A', c', rfl, hc', hm', hx'⟩ := hu
  have hmp := hm.1
  have hmq := hm'.1
  have HX := Lib.hid hx
  have HX' := Lib.hid hx'
  clear hc hm hx hc' hm' hx'
  have hB : Below w.heap.size w w := Below.refl _ _
  have hmixed : Tryz.prog.follows .mixedOrders = true := by kernel_rfl
  by_cases hp0 : p = []
  · subst hp0
    obtain rfl : r = [] := by unfold timesO at hr; rw [if_pos (Or.inl rfl)] at hr; exact (Option.some.inj hr).symm
    go_enter Tryz.func144, Tryz.ntmps144
    go_wp2
    go_ret
    exact ⟨_, rfl, Pv.nil w, Below.refl _ _⟩
  have hp1 : 0 < p.length := List.length_pos_iff.2 hp0
  have hpb : ((p.length : Int) == 0) = false := beq_eq_false_iff_ne.2 (by omega)
  by_cases hq0 : q = []
  · subst hq0
    obtain rfl : r = [] := by unfold timesO at hr; rw [if_pos (Or.inr rfl)] at hr; exact (Option.some.inj hr).symm
    go_enter Tryz.func144, Tryz.ntmps144
    go_wp2
    go_ret
    exact ⟨_, rfl, Pv.nil w, Below.refl _ _⟩
  have hq1 : 0 < q.length := List.length_pos_iff.2 hq0
  have hqb : ((q.length : Int) == 0) = false := beq_eq_false_iff_ne.2 (by omega)
  obtain ⟨h12, l, hl, rfl⟩ := times_at hr hp0 hq0
  obtain ⟨L, hLL⟩ : ∃ L, p.length + q.length - 1 = L := ⟨_, rfl⟩
  have hw1 : IntKind.i64.wrap ((p.length : Int) + (q.length : Int)) = (p.length : Int) + q.length := IntWalk.i64_in _ (by omega)
  have hw2 : IntKind.i64.wrap ((p.length : Int) + (q.length : Int) - 2) = (p.length : Int) + q.length - 2 := IntWalk.i64_in _ (by omega)
  have hw3 : IntKind.i64.wrap ((p.length : Int) + (q.length : Int) - 1) = (L : Int) := by rw [IntWalk.i64_in _ (by omega)]; omega
  have hle : (p.length : Int) + q.length - 2 ≤ 12 := by omega
  have M := Lib.hid (fun w => must_true w)
  have K : Hid (∀ (w : World), Laid w → Calls Tryz.prog 62 #[.int .i64 0] w (RetR w 0)) := Lib.hid (fun w hL => whole_any 0 (by decide) (by decide) w hL)
  have RP := Lib.hid (fun gz w hz => repeat_any L (by omega) (by omega) gz w hz)
  go_enter Tryz.func144, Tryz.ntmps144
  go_wp2_with (first
    | (go_at_call 53; refine (M.out _).mono ?_; rintro e w' ⟨rfl, hw⟩; rw [hw]; clear hw)
    | (go_at_call 62; (with_reducible refine (K.out _ hL).mono ?_); rintro e w1 ⟨rfl, hb⟩; have hs1 := hb.size; replace hB := hb; clear hb)
    | (go_at_call 170; (with_reducible refine (RP.out w1.heap.size _ (Blk.new w1 29 [.string (numT (some 0)), .string (denT (some 0))])).mono ?_); rintro e w2 ⟨rfl, hPB, hb⟩; replace hB := below_up (below_up hB (below1 w1 (.cells #[.string (numT (some 0)), .string (denT (some 0))] 29))) hb; clear hb))
  have hsz : (w1.alloc (.cells #[.string (numT (some 0)), .string (denT (some 0))] 29)).heap.size = w1.heap.size + 1 := by simp
  rw [hsz] at hPB
  obtain ⟨gs, hgs⟩ : ∃ g, w1.heap.size + 1 = g := ⟨_, rfl⟩
  rw [hgs] at hPB ⊢
  have hgw : w.heap.size ≤ gs := by omega
  have hgl : gs < w2.heap.size := Blk.lt hPB
  have HL := Lib.hid (fun i li (h : rowsO p q i = some li) => (rows_len h).trans hLL)
  clear hpb hqb hw1 hw2 hw3 hle hsz
  go_loopg [37] p.length (fun z s37 wr => ∃ (i : Nat) (li : List Rat), s37 = .int .i64 i ∧ i ≤ p.length ∧ p.length ≤ z + i ∧ rowsO p q i = some li ∧ (∀ j, fitQ (cf li j)) ∧ PB wr gs li [] ∧ Below w.heap.size w wr)
  case atStart => exact ⟨0, _, rfl, by omega, by omega, by rw [show rowsO p q 0 = some (List.replicate (p.length + q.length - 1) 0) from rfl, hLL], fun j => by rw [cf_replicate]; exact fit_zero, hPB, hB⟩
  case round =>
    clear hB hPB hgl
    obtain ⟨i, li, rfl, hi, hk, hri, hfi, hPB, hB⟩ := hrel
    by_cases hgi : i < p.length
    · have hgii : (i : Int) < p.length := by omega
      obtain ⟨ln, hln⟩ := rows_more hl (i := i + 1) (by omega)
      have hrow : rowO (cf p i) i q q.length li = some ln := (rows_step hri).symm.trans hln
      obtain ⟨b, o, rfl, hy⟩ := HX.out (by omega)
      have k0 := (hB.cell (cell_lt (hy i hgi).1)).trans (hy i hgi).1
      have k1 := (hB.cell (cell_lt (hy i hgi).2)).trans (hy i hgi).2
      have hfp := HV.out.fit i
      have hlen := HL.out i li hri
      clear hy
      generalize cf p i = pa at *
      obtain ⟨wo, hwo⟩ : ∃ x, x = wr := ⟨_, rfl⟩
      subst hwo
      have hgo : gs < wo.heap.size := Blk.lt hPB
      go_wp2_with fail
      go_loopg [44] q.length (fun z s44 wr => ∃ (k : Nat) (lk : List Rat), s44 = .int .i64 k ∧ k ≤ q.length ∧ q.length ≤ z + k ∧ rowO pa i q k li = some lk ∧ (∀ j, fitQ (cf lk j)) ∧ PB wr gs lk [] ∧ Blk wr wo.heap.size 29 [.string (numT (some pa)), .string (denT (some pa))] ∧ Below w.heap.size w wr)
      case atStart => exact ⟨0, li, rfl, by omega, by omega, rfl, hfi, hPB.below (below1 _ _), Blk.new _ _ _, below_up hB (below1 _ _)⟩
      case round =>
        clear hB hPB
        obtain ⟨k, lk, rfl, hkq, hkz, hrk, hfk, hPB, Ba, hB⟩ := hrel
        by_cases hgk : k < q.length
        · have hgki : (k : Int) < q.length := by omega
          obtain ⟨l2, hl2⟩ := row_more hrow (k := k + 1) (by omega)
          have hst : stepO pa i q k lk = some l2 := (row_step hrk).symm.trans hl2
          obtain ⟨m, s, hm1, hm2, rfl⟩ := step_parts hst
          obtain ⟨b', o', rfl, hy⟩ := HX'.out (by omega)
          have k0 := (hB.cell (cell_lt (hy k hgk).1)).trans (hy k hgk).1
          have k1 := (hB.cell (cell_lt (hy k hgk).2)).trans (hy k hgk).2
          have hlk : lk.length = L := (row_len hrk).trans hlen
          have hik : i + k < lk.length := by omega
          have hiki : (i : Int) + (k : Int) < L := by omega
          have ht : ((i : Int) + (k : Int)).toNat = i + k := by omega
          have hik0 : (0 : Int) ≤ (i : Int) + (k : Int) := by omega
          have hw : IntKind.i64.wrap ((i : Int) + (k : Int)) = (i : Int) + (k : Int) := IntWalk.i64_in _ (by omega)
          have C1 := Lib.hid (fun w hL => pmul_c hfp (HU.out.fit k) hm1 w hL)
          have C2 := Lib.hid (fun w hL => padd_c (hfk (i + k)) (mulQ_fit hm1) hm2 w hL)
          have hfn := fit_set (k := i + k) hfk (addQ_fit hm2)
          have hPn := Lib.hid (fun (W : World) (h : PB W gs lk []) => h.set (i + k) hik s)
          clear hm1 hm2 hst hy
          have hx0 := fun (W : World) (h : PB W gs lk []) => h.cell (i + k) hik
          generalize cf lk (i + k) = x at *
          generalize cf q k = qb at *
          have ba := below1 wr (.cells #[.string (numT (some qb)), .string (denT (some qb))] 29)
          have hPB2 := hPB.below ba
          have Ba2 := Ba.below ba
          have Bb2 := Blk.new wr 29 [.string (numT (some qb)), .string (denT (some qb))]
          go_upto_region 11 with fail
          generalize hwq : wr.alloc (.cells #[.string (numT (some qb)), .string (denT (some qb))] 29) = wq at *
          clear k0 k1
          have hZ : Below wq.heap.size wq wq.drew := (Below.refl _ _).drew
          have hPN := hPB2.below hZ
          have o0 := (hx0 _ hPN).1
          have o1 := (hx0 _ hPN).2
          have a0 := (Ba2.below hZ).cell 0 (v := .string (numT (some pa))) rfl
          have a1 := (Ba2.below hZ).cell 1 (v := .string (denT (some pa))) rfl
          have b0 := (Bb2.below hZ).cell 0 (v := .string (numT (some qb))) rfl
          have b1 := (Bb2.below hZ).cell 1 (v := .string (denT (some qb))) rfl
          have f0 := Blk.frozen hPN ((i + k) * 2)
          have f1 := Blk.frozen hPN ((i + k) * 2 + 1)
          have n1 : wo.heap.size ≠ gs := by omega
          have n2 : wr.heap.size ≠ gs := by have := Blk.lt Ba; omega
          have n3 := n1.symm
          have n4 := n2.symm
          go_region_with (first
            | (go_at_call 168; (with_reducible refine (C1.out _ (HL0.out.below (below_up hB (below_up ba hZ)))).mono ?_); rintro e wN ⟨rfl, hb⟩; have hZ := below_up hZ hb; have o0 := (hb.cell (cell_lt o0)).trans o0; have o1 := (hb.cell (cell_lt o1)).trans o1; have a0 := (hb.cell (cell_lt a0)).trans a0; have a1 := (hb.cell (cell_lt a1)).trans a1; have b0 := (hb.cell (cell_lt b0)).trans b0; have b1 := (hb.cell (cell_lt b1)).trans b1; have hPN := hPN.below hb; have f0 := Blk.frozen hPN ((i + k) * 2); have f1 := Blk.frozen hPN ((i + k) * 2 + 1))
            | (go_at_call 61; (with_reducible refine (C2.out _ (HL0.out.below (below_up hB (below_up ba hZ)))).mono ?_); rintro e wN ⟨rfl, hb⟩; have hZ := below_up hZ hb; have o0 := (hb.cell (cell_lt o0)).trans o0; have o1 := (hb.cell (cell_lt o1)).trans o1; have a0 := (hb.cell (cell_lt a0)).trans a0; have a1 := (hb.cell (cell_lt a1)).trans a1; have b0 := (hb.cell (cell_lt b0)).trans b0; have b1 := (hb.cell (cell_lt b1)).trans b1; have hPN := hPN.below hb; have f0 := Blk.frozen hPN ((i + k) * 2); have f1 := Blk.frozen hPN ((i + k) * 2 + 1)))
          all_goals go_wp2
          all_goals go_roundg (q.length - (k + 1))
          all_goals first | omega | exact ⟨k + 1, _, by go_num, by omega, by omega, hl2, hfn, hPn.out _ hPN, (((Ba2.below hZ).other (by omega) _ _).other (by omega) _ _), ((below_up hB (below_up ba hZ)).setCell (by dsimp; omega) _).setCell (by dsimp; omega) _⟩
        · obtain rfl : k = q.length := by omega
          have hri2 : rowsO p q (i + 1) = some lk := hln.trans (hrow.symm.trans hrk)
          clear hri hrow hrk hln hlen hfi
          go_wp2
          go_roundg (p.length - (i + 1))
          all_goals first | omega | exact ⟨i + 1, lk, by go_num, by omega, by omega, hri2, hfk, hPB, hB⟩
    · obtain rfl : i = p.length := by omega
      obtain rfl : li = l := Option.some.inj (hri.symm.trans hl)
      have hlen := HL.out p.length li hri
      have hT := Lib.hid (ptrimmed_any (A := some ⟨gs, 0, none⟩) (c := li.length) wr (hPB.pvAll li.length (Nat.le_refl _) (by omega) hfi) (by omega) (HL0.out.below hB))
      rw [hlen] at hT
      clear hri hl hr
      go_wp2_with (go_at_call 172; (with_reducible refine hT.out.mono ?_); rintro e w6 ⟨rfl, ht, hb⟩)
      go_ret
      have hlt := trim_len li
      have hP := (hPB.below hb).pv (trimP li).length (trimP li).length hlt (Nat.le_refl _) (by omega) hfi
      rw [ht] at hP
      exact ⟨_, rfl, hP, below_up hB hb⟩

end Go.Proofs.YtffndcjmabjhiaaGreatDoor

namespace Go.Proofs.YtffndcjmabjhiaaGreatDoor
open Go.RowKit Num
open Go.Shelf

theorem flat_idx {w : World} {b o : Nat} {l : List Rat} (h : ∀ j, j < l.length → w.cell? ⟨b, o + j * 2, none⟩ = some (.string (numT (some (cf l j)))) ∧ w.cell? ⟨b, o + j * 2 + 1, none⟩ = some (.string (denT (some (cf l j)))))
    (j : Nat) (u : Value) (hu : (flat l)[j]? = some u) : w.cell? ((⟨b, o, none⟩ : Addr).add j) = some u := by
  have hj : j < (flat l).length := (List.getElem?_eq_some_iff.1 hu).1
  rw [flat_len] at hj
  have e : (⟨b, o, none⟩ : Addr).add j = ⟨b, o + j, none⟩ := Addr.add_lit ..
  rw [e]
  have hf := flat_get l (j / 2) (by omega)
  have hc := h (j / 2) (by omega)
  rcases Nat.mod_two_eq_zero_or_one j with hm | hm
  · have ej : j = j / 2 * 2 := by omega
    rw [← ej] at hf hc
    rw [hf.1] at hu
    rw [← Option.some.inj hu]; exact hc.1
  · have ej : j = j / 2 * 2 + 1 := by omega
    have ej2 : o + j / 2 * 2 + 1 = o + j := by omega
    rw [← ej] at hf
    rw [ej2] at hc
    rw [hf.2] at hu
    rw [← Option.some.inj hu]; exact hc.2
/-- A row that is not empty is a block. -/
theorem RowR.pb {w : World} {B : Nat} {v : Value} {l : List Rat} (h : RowR w B v l) (h0 : l ≠ []) : ∃ g c rest, v = .slice (some ⟨g, 0, none⟩) l.length c ∧ B ≤ g ∧ l.length ≤ c ∧ PB w g l rest := by
  obtain ⟨h1, h2⟩ := h
  rcases h2 with ⟨rfl, hn⟩ | ⟨g, cap, cur, rfl, hg, hh, hl, hc, hcap, h3⟩
  · exact absurd (List.eq_nil_of_length_eq_zero hn) h0
  · refine ⟨g, cap, cur.toList.drop (l.length * 2), rfl, hg, hl, ?_⟩
    unfold PB Blk
    rw [← h3, List.take_append_drop]
    exact hh
set_option maxHeartbeats 1000000 in
set_option maxRecDepth 100000 in
theorem clone_any {v : Value} {l : List Rat} (w : World) (hv : Pv w v l) : Calls Tryz.prog 72 #[v] w (fun e w' => ∃ u, e = .returned u ∧ RowR w' w.heap.size u l ∧ Below w.heap.size w w') := by
  obtain ⟨A, c, rfl, hc, hm, hx⟩ := hv
  have q : ∀ (w : World) (a : Option Addr) (n c n' c' : Nat), (binOp .eql 119 (.slice a n c) (.slice none n' c')).run Tryz.prog w = .ok (.bool a.isNone) w := fun w a n c n' c' => Lib.run_eql_slice_nil w _ _ a n c n' c' Tryz.underlying119
  have hm1 := hm.1
  cases A with
  | none =>
    have h0 : l = [] := by
      apply List.eq_nil_of_length_eq_zero
      have := hc.1; have := hc.2 rfl; omega
    subst h0
    clear hc hm hx
    go_enter Tryz.func72, Tryz.ntmps72
    go_wp2
    go_ret
    exact ⟨_, rfl, RowR.nil _ _, Below.refl _ _⟩
  | some a =>
    obtain ⟨i0, hi, hz0, hz1, hz2⟩ := info_parts Tryz.infoR
    have hown : World.ownsRow (w.alloc (.cells #[] 29)) w.heap.size 29 2 (.slice (some ⟨w.heap.size, 0, none⟩) 0 0) 0 [] :=
      ⟨rfl, .inr ⟨w.heap.size, 0, #[], rfl, Nat.le_refl _, Blk.new w 29 [], Nat.le_refl _, by unfold maxLen; omega, rfl, rfl⟩⟩
    have hcell : ∀ j u, (flat l)[j]? = some u → (w.alloc (.cells #[] 29)).cell? (a.add j) = some u := fun j u hu => by
      have hl : 0 < l.length := by
        have hj := (List.getElem?_eq_some_iff.1 hu).1
        rw [flat_len] at hj; omega
      obtain ⟨b, o, ea, hy⟩ := hx hl
      obtain rfl := Option.some.inj ea
      have hcw := flat_idx hy j u hu
      exact ((below1 w (.cells #[] 29)).cell (cell_lt hcw)).trans hcw
    clear hc hm hx
    go_enter Tryz.func72, Tryz.ntmps72
    go_wp2_with (at_builtin; refine wpList_append_own _ rfl (.tmp 5) (.tmp 6) 119 rfl w.heap.size 29 i0 (.agg #[.string ⟨#[]⟩, .string ⟨#[]⟩]) 2 32 Tryz.underlying119 hi hz0 hz1 hz2 rfl (by decide) _ 0 [] rfl hown a l.length c (flat l) rfl (flat_len l) hcell (flat_cell l) (by unfold maxLen; omega) (by omega) (by simp) ?_; intro v' w1 hown1 hg1 hn1)
    go_ret
    rw [Nat.zero_add, List.nil_append] at hown1
    refine ⟨_, rfl, hown1, (below1 w _).grown hg1 (by simp) (fun k hk => ?_)⟩
    have : some w.heap.size = some k := hk
    cases this; exact Nat.le_refl _

end Go.Proofs.YtffndcjmabjhiaaGreatDoor
