/- Derivatives and greatest common divisors. Conditions: the tables of strconv; no operation fails. Greatest common divisors. Conditions: the tables of strconv; no operation fails. -/
import Derived.Test.YtffndcjmabjhiaaGreatDoorM3
import Derived.Deep.RegionHeld3
import Derived.Test.YtffndcjmabjhiaaGreatDoorM4
namespace Go.Proofs.YtffndcjmabjhiaaGreatDoor
open Go.RowKit Num
open Go.Shelf

theorem step_app_rat {ops : Array Oper} {o : Oper} {a : Act} {w : World} {K : Act → World → Prop} {Q : Exit → Act → World → Prop} {E : Prop} (hgd : o.guard = none) (s x : Operand) {t : TypeId} (ht : Tryz.prog.underlying t = some (.slice 29))
    (ho : o.op = .call { callee := .builtin .append, args := #[s, x], argTypes := #[t, t] }) (B : Nat) (v : Value) (l : List Rat) (q : Rat) (hs : a.eval s = v)
    (hown : RowR w B v l) (hx : a.eval x = .slice (some ⟨w.heap.size, 0, none⟩) 1 1) (hl : l.length ≤ 1000) (hB : B ≤ w.heap.size)
    (h : ∀ v' w', RowR w' B v' (l ++ [q]) → (∀ b W, Below b W w → b ≤ B → Below b W w') → K (a.put o.dst v') w') :
    if Region.wanted o (yielded ops a.tmps) = true then Oper.wp Tryz.prog o a (w.alloc (.cells #[.string (numT (some q)), .string (denT (some q))] 29)) K Q else E := by
  have hw : Region.wanted o (yielded ops a.tmps) = true := by simp [Region.wanted, hgd]
  rw [if_pos hw]
  obtain ⟨i0, hi, hz0, hz1, hz2⟩ := info_parts Tryz.infoR
  refine wp_append_own _ s x t ho B 29 i0 (.agg #[.string ⟨#[]⟩, .string ⟨#[]⟩]) 2 32 ht hi hz0 hz1 hz2 rfl (by decide) v l.length _ hs (World.ownsRow.alloc hown _) ⟨w.heap.size, 0, none⟩ 1 1 [.string (numT (some q)), .string (denT (some q))] hx rfl (fun j u hu => rat_new _ _ _ _ j u hu) ?_ ?_ ?_ ?_ ?_
  · intro u hu; simp at hu; rcases hu with rfl | rfl <;> rfl
  · unfold maxLen; omega
  · omega
  · simp; omega
  · intro v' w' hown' hg _
    refine h v' w' ?_ (fun b W hb hbB => ?_)
    · unfold RowR
      rw [List.length_append, flat_append]
      exact hown'
    · exact (hb.alloc (by omega) _).grown hg (by simp; omega) (fun k hk => by have := (World.ownsRow.lt hown k hk).1; omega)
theorem fit_nat {n : Nat} (h : n ≤ 10000) : fitQ ((n : Nat) : Rat) := by
  unfold fitQ
  rw [Rat.num_natCast, Rat.den_natCast]
  refine ⟨?_, by decide⟩
  show (n : Int).natAbs < 10 ^ 200
  rw [Int.natAbs_natCast]
  exact Nat.lt_of_le_of_lt h (by decide)
theorem whole_nat (n : Nat) (h : n ≤ 10000) (w : World) (hL : Laid w) : Calls Tryz.prog 62 #[.int .i64 n] w (RetR w ((n : Nat) : Rat)) := whole_any (n : Int) (by omega) (by omega) w hL

set_option maxHeartbeats 4000000 in
set_option maxRecDepth 100000 in
theorem pderiv_any {v : Value} {p l : List Rat} (w : World) (hv : Pv w v p) (hr : derivO p = some l) (hL : Laid w) : Calls Tryz.prog 70 #[v] w (RetL7 w l) := by
  obtain ⟨hl1, hl2⟩ := tab_some hr
  have hfl : ∀ i, fitQ (cf l i) := fun i => by
    by_cases h : i < p.length - 1
    · exact mulQ_fit (hl2 i h)
    · rw [cf_past (by omega)]; exact fit_zero
  have HFL := Lib.hid hfl
  have hml := hv.small
  have CM := Lib.hid (fun (i : Nat) (hi : i < p.length - 1) w hL => pmul_c (fit_nat (n := i + 1) (by omega)) (hv.fit (i + 1)) (hl2 i hi) w hL)
  have CW := Lib.hid (fun (i : Nat) (hi : i < p.length - 1) w hL => whole_nat (i + 1) (by omega) w hL)
  have HL0 := Lib.hid hL
  obtain ⟨A, c, rfl, hc, hm, hx⟩ := hv
  have HX := Lib.hid hx
  clear hr hl2 hfl hc hm hx
  have hB : Below w.heap.size w w := Below.refl _ _
  have hmixed : Tryz.prog.follows .mixedOrders = true := by kernel_rfl
  obtain ⟨n, hn⟩ : ∃ n, p.length - 1 = n := ⟨_, rfl⟩
  rw [hn] at hl1 CM CW
  go_enter Tryz.func70, Tryz.ntmps70
  go_wp2
  go_loopg [3, 4] n (fun k s3 s4 wr => ∃ j : Nat, s4 = .int .i64 ((j : Int) + 1) ∧ j ≤ n ∧ n ≤ k + j ∧ RowR wr w.heap.size s3 (l.take j) ∧ Below w.heap.size w wr)
  case atStart => exact ⟨0, rfl, by omega, by omega, RowR.nil _ _, hB⟩
  case round =>
    clear hB
    obtain ⟨j, rfl, hj, hk, hR, hB⟩ := hrel
    by_cases hg : j < n
    · have hgi : (j : Int) + 1 < p.length := by omega
      have hj0 : (0 : Int) ≤ (j : Int) + 1 := by omega
      have ht : ((j : Int) + 1).toNat = j + 1 := by omega
      obtain ⟨b, o, rfl, hy⟩ := HX.out (by omega)
      have C1 := Lib.hid (CM.out j hg)
      have C0 : Hid (∀ (w : World), Laid w → Calls Tryz.prog 62 #[.int .i64 ((j : Int) + 1)] w (RetR w ((j + 1 : Nat) : Rat))) := Lib.hid (fun w hL => CW.out j hg w hL)
      have htk : l.take j ++ [cf l j] = l.take (j + 1) := take_more (by omega)
      have HTK := Lib.hid htk
      have hlj : (l.take j).length ≤ 1000 := by rw [List.length_take]; omega
      have hZ : Below wr.heap.size wr wr.drew := (Below.refl _ _).drew
      have kw0 := (hy (j + 1) (by omega)).1
      have kw1 := (hy (j + 1) (by omega)).2
      have k0 := ((hB.drew).cell (cell_lt (hy (j + 1) (by omega)).1)).trans (hy (j + 1) (by omega)).1
      have k1 := ((hB.drew).cell (cell_lt (hy (j + 1) (by omega)).2)).trans (hy (j + 1) (by omega)).2
      have hRN := hR.below hZ
      have hBN := hB.drew
      clear htk hy
      generalize cf p (j + 1) = pj at *
      generalize cf l j = lj at *
      generalize ((j + 1 : Nat) : Rat) = wj at *
      generalize l.take j = lt at *
      go_wp2_with fail
      have e0 := Nat.ne_of_gt (cell_lt k0)
      go_region_held3 (fun w' => w'.cell? ⟨b, o + (j + 1) * 2, none⟩ = some (.string (numT (some pj))) ∧ w'.cell? ⟨b, o + (j + 1) * 2 + 1, none⟩ = some (.string (denT (some pj)))) (go_keep) (first
        | (go_at_call 62; (with_reducible refine (C0.out _ (HL0.out.below hBN)).mono ?_); rintro e wN ⟨rfl, hb⟩; have hRN := hRN.below hb; have hBN := below_up hBN hb; have k0 := (hb.cell (cell_lt k0)).trans k0; have k1 := (hb.cell (cell_lt k1)).trans k1; have e0 := Nat.ne_of_gt (cell_lt k0))
        | (go_at_call 168; (with_reducible refine (C1.out _ (HL0.out.below hBN)).mono ?_); rintro e wN ⟨rfl, hb⟩; have hRN := hRN.below hb; have hBN := below_up hBN hb; have k0 := (hb.cell (cell_lt k0)).trans k0; have k1 := (hb.cell (cell_lt k1)).trans k1; have e0 := Nat.ne_of_gt (cell_lt k0))
        | (refine step_app_rat rfl (.tmp 11) (.tmp 19) Tryz.underlying119 rfl w.heap.size _ lt lj rfl hRN rfl hlj (hBN.size) ?_; intro v' wA hRA hBA; have hBN := hBA _ _ hBN (Nat.le_refl _); have k0 := (hBN.cell (cell_lt kw0)).trans kw0; have k1 := (hBN.cell (cell_lt kw1)).trans kw1))
      all_goals go_wp2
      all_goals go_roundg (n - (j + 1))
      all_goals first | omega | exact ⟨j + 1, by go_num, by omega, by omega, HTK.out ▸ hRA, hBN⟩
    · obtain rfl : j = n := by omega
      have hgi : ¬ ((j : Int) + 1 < p.length) := by omega
      rw [← hl1, List.take_length] at hR
      go_wp2
      go_ret
      exact ⟨_, rfl, hR.pv (by omega) HFL.out, hB⟩

end Go.Proofs.YtffndcjmabjhiaaGreatDoor

namespace Go.Proofs.YtffndcjmabjhiaaGreatDoor
open Go.RowKit Num
open Go.Shelf

theorem div_len {q : List Rat} (hq : 0 < q.length) : ∀ (n : Nat) {u r u' r' : List Rat}, divO q n u r = some (u', r') → r.length ≤ n → r'.length < q.length
  | 0, u, r, u', r', h, hn => by
    have h' : some (u, r) = some (u', r') := h
    obtain ⟨rfl, rfl⟩ := Prod.mk.inj (Option.some.inj h')
    omega
  | n + 1, u, r, u', r', h, hn => by
    by_cases hl : r.length < q.length
    · rw [div_short hl] at h
      obtain ⟨rfl, rfl⟩ := Prod.mk.inj (Option.some.inj h)
      exact hl
    · obtain ⟨f, r2, h1, h2, h3⟩ := div_step h hl
      refine div_len hq n h3 ?_
      have := trim_len (r2.take (r.length - 1))
      have h4 : (r2.take (r.length - 1)).length ≤ r.length - 1 := by rw [List.length_take]; omega
      omega
theorem by_len {p q u r : List Rat} (h : byO p q = some (u, r)) : q ≠ [] ∧ r.length < q.length := by
  have hq : q ≠ [] := fun c => by unfold byO at h; rw [if_pos c] at h; cases h
  unfold byO at h
  rw [if_neg hq] at h
  exact ⟨hq, div_len (List.length_pos_iff.2 hq) _ h (Nat.le_refl _)⟩
theorem monic_len {p l : List Rat} (h : monicO p = some l) : l.length = p.length := by
  unfold monicO at h
  by_cases c : p = []
  · rw [if_pos c] at h; rw [← Option.some.inj h, c]
  · rw [if_neg c] at h; exact (tab_some h).1
theorem gcd_step {k : Nat} {p q g : List Rat} (h : gcdO (k + 1) p q = some g) (hq : q ≠ []) : ∃ u r m, byO p q = some (u, r) ∧ monicO r = some m ∧ gcdO k q m = some g := by
  have h' : (if q = [] then monicO p else (byO p q).bind fun d => (monicO d.2).bind fun m => gcdO k q m) = some g := h
  rw [if_neg hq] at h'
  obtain ⟨⟨u, r⟩, h1, h2⟩ := Option.bind_eq_some_iff.1 h'
  obtain ⟨m, h3, h4⟩ := Option.bind_eq_some_iff.1 h2
  exact ⟨u, r, m, h1, h3, h4⟩
theorem gcd_end {p g : List Rat} : ∀ k, gcdO k p [] = some g → monicO p = some g
  | 0, h => h
  | k + 1, h => by
    have h' : (if ([] : List Rat) = [] then monicO p else (byO p []).bind fun d => (monicO d.2).bind fun m => gcdO k [] m) = some g := h
    rwa [if_pos rfl] at h'

theorem field_rest (x y : Value) (w : World) : (Instr.field 125 (.agg #[x, y]) 1).run Tryz.prog w = .ok y w := by kernel_rfl
theorem field_quo (x y : Value) (w : World) : (Instr.field 125 (.agg #[x, y]) 0).run Tryz.prog w = .ok x w := by kernel_rfl
set_option maxHeartbeats 2000000 in
set_option maxRecDepth 100000 in
theorem pgcd_any {v y : Value} {p q g : List Rat} (w : World) (hv : Pv w v p) (hu : Pv w y q) (hp : p.length ≤ 13) (hq : q.length ≤ 13) (hr : gcdO q.length p q = some g) (hL : Laid w) :
    Calls Tryz.prog 73 #[v, y] w (RetL7 w g) := by
  have HL0 := Lib.hid hL
  have hfr := field_rest
  have hB : Below w.heap.size w w := Below.refl _ _
  obtain ⟨k0, hk0⟩ : ∃ k, q.length = k := ⟨_, rfl⟩
  rw [hk0] at hr
  have hqk : q.length ≤ k0 := by omega
  clear hk0
  have CM := fun (W : World) (x : Value) (r m : List Rat) (hx : Pv W x r) (hm : monicO r = some m) hL => monic_any W hx hm hL
  have CB := fun (W : World) (x y : Value) (p q a b : List Rat) (hx : Pv W x p) (hy : Pv W y q) (hp : p.length ≤ 13) (hm : byO p q = some (a, b)) hL => pby_any W hx hy hp hm hL
  have CMH := Lib.hid CM
  have CBH := Lib.hid CB
  clear CM CB
  go_enter Tryz.func73, Tryz.ntmps73
  go_wp2_with fail
  go_loopg [0, 1] k0 (fun k s0 s1 wr => ∃ (pl ql : List Rat), Pv wr s0 pl ∧ Pv wr s1 ql ∧ pl.length ≤ 13 ∧ ql.length ≤ 13 ∧ gcdO k pl ql = some g ∧ ql.length ≤ k ∧ Below w.heap.size w wr)
  case atStart => exact ⟨p, q, hv, hu, hp, hq, hr, hqk, hB⟩
  case round =>
    clear hv hu hp hq hr hqk hB p q
    obtain ⟨p, q, hv, hu, hp, hq, hr, hqk, hB⟩ := hrel
    have HV := Lib.hid hv
    have HU := Lib.hid hu
    obtain ⟨A, c, rfl, hc, hm, hx⟩ := hv
    obtain ⟨A', c', rfl, hc', hm', hx'⟩ := hu
    clear hc hm hx hc' hm' hx'
    have HR := Lib.hid hr
    clear hr
    by_cases h0 : q = []
    · subst h0
      have C := Lib.hid (fun W (hb : Below wr.heap.size wr W) => CMH.out W _ _ _ (HV.out.below hb) (gcd_end _ HR.out) (HL0.out.below (below_up hB hb)))
      go_wp2_with (go_at_call 169; (with_reducible refine (C.out _ (Below.refl _ _)).mono ?_); rintro e w1 ⟨x, rfl, hx, hb⟩)
      go_ret
      exact ⟨x, rfl, hx, below_up hB hb⟩
    · have hq1 : 0 < q.length := List.length_pos_iff.2 h0
      have hqi : (q.length : Int) > 0 := by omega
      obtain ⟨g', rfl⟩ : ∃ g', gk = g' + 1 := ⟨gk - 1, by omega⟩
      obtain ⟨a, b, m, h1, h2, h3⟩ := gcd_step HR.out h0
      have hbl := (by_len h1).2
      have hml := monic_len h2
      have H3 := Lib.hid h3
      have C1 := Lib.hid (CBH.out wr _ _ _ _ _ _ HV.out HU.out hp h1 (HL0.out.below hB))
      have C2 := Lib.hid (fun W x (hx : Pv W x b) hL => CMH.out W x b m hx h2 hL)
      clear h1 h2 h3 HR
      go_wp2_with (first
        | (go_at_call 76; (with_reducible refine C1.out.mono ?_); rintro e w1 ⟨xa, xb, rfl, hxa, hxb, hb⟩; obtain ⟨Aa, ca, rfl, -, -, -⟩ := hxa; have HXB := Lib.hid hxb; obtain ⟨Ab, cb, rfl, -, -, -⟩ := hxb; have hB1 := below_up hB hb)
        | (go_at_call 169; (with_reducible refine (C2.out w1 _ HXB.out (HL0.out.below hB1)).mono ?_); rintro e w2 ⟨xm, rfl, hxm, hb2⟩))
      go_roundg g'
      all_goals first | omega | exact ⟨q, m, HU.out.below (below_up hb hb2), hxm, hq, by omega, H3.out, by omega, below_up hB1 hb2⟩

end Go.Proofs.YtffndcjmabjhiaaGreatDoor
