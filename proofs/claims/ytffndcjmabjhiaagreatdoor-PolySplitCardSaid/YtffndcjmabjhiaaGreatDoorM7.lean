/- The value of a polynomial, taken in coefficients in any order, does not fail where all is small. Plain. The value of a polynomial. Conditions: the tables of strconv; no operation fails. Eval and Gcd of package poly, where nothing fails. Conditions: the tables of strconv; the polynomials are valid. -/
import Derived.Test.YtffndcjmabjhiaaGreatDoorK17
import Derived.Test.YtffndcjmabjhiaaGreatDoorI4
import Derived.Test.YtffndcjmabjhiaaGreatDoorM6
import Derived.Test.YtffndcjmabjhiaaGreatDoorM5
namespace Go.Proofs.YtffndcjmabjhiaaGreatDoor
open Num

theorem ev_step {D N E M k n : Nat} {x s c : Rat} (hx : bd E M x) (h0 : 0 < D) (h1 : 0 < E) (hc : bd D N c) (hs : bd (D * E ^ k) (k * (N * (M + E) ^ k)) s) (hk : k + 1 ≤ n) (hD : Lo (D * E ^ n)) (hN : Lo ((n + 1) * (N * (M + E) ^ n))) (hlE : Lo E) (hlM : Lo M) :
    mulQ s x = some (s * x) ∧ addQ (s * x) c = some (s * x + c) ∧ bd (D * E ^ (k + 1)) ((k + 1) * (N * (M + E) ^ (k + 1))) (s * x + c) := by
  have hpw : ∀ j, j ≤ n → D * E ^ j ≤ D * E ^ n := fun j hj => Nat.mul_le_mul_left _ (Nat.pow_le_pow_right h1 hj)
  have hpos : ∀ j, 0 < D * E ^ j := fun j => Nat.mul_pos h0 (Nat.pow_pos h1)
  have hME : 0 < M + E := by omega
  have hb : ∀ j i, j ≤ n → i ≤ n + 1 → i * (N * (M + E) ^ j) ≤ (n + 1) * (N * (M + E) ^ n) := fun j i hj hi => Nat.mul_le_mul hi (Nat.mul_le_mul_left _ (Nat.pow_le_pow_right hME hj))
  have v1 := hs.mul hx
  have eD : D * E ^ k * E = D * E ^ (k + 1) := by rw [Nat.pow_succ]; exact Nat.mul_assoc _ _ _
  rw [eD] at v1
  have c1 : bd (D * E ^ (k + 1)) (N * E ^ (k + 1)) c := hc.scale _
  have hm : k * (N * (M + E) ^ k) * M ≤ k * (N * (M + E) ^ (k + 1)) := by
    rw [Nat.mul_assoc, Nat.mul_assoc N, Nat.pow_succ]
    exact Nat.mul_le_mul_left _ (Nat.mul_le_mul_left _ (Nat.mul_le_mul_left _ (by omega)))
  have hcc : N * E ^ (k + 1) ≤ N * (M + E) ^ (k + 1) := Nat.mul_le_mul_left _ (Nat.pow_le_pow_left (by omega) _)
  have v2 := v1.mono hm
  have c2 := c1.mono hcc
  have s1 := v2.add c2
  rw [show k * (N * (M + E) ^ (k + 1)) + N * (M + E) ^ (k + 1) = (k + 1) * (N * (M + E) ^ (k + 1)) by rw [Nat.succ_mul]] at s1
  refine ⟨mul_ok (hs.lim90 (hpos _) (Nat.lt_of_le_of_lt (hpw _ (by omega)) hD) (Nat.lt_of_le_of_lt (hb _ _ (by omega) (by omega)) hN)) (hx.lim90 h1 hlE hlM), ?_, s1⟩
  exact add_ok (v2.lim90 (hpos _) (Nat.lt_of_le_of_lt (hpw _ hk) hD) (Nat.lt_of_le_of_lt (hb _ _ hk (by omega)) hN)) (c2.lim90 (hpos _) (Nat.lt_of_le_of_lt (hpw _ hk) hD) (Nat.lt_of_le_of_lt (by have := hb (k + 1) 1 hk (by omega); omega) hN))

/-- A polynomial and a number that are small enough for a value. -/
structure EvB (D N E M : Nat) (p : List Rat) (x : Rat) : Prop where
  d0 : 0 < D
  e0 : 0 < E
  hx : bd E M x
  hp : bdL D N p
  hD : Lo (D * E ^ p.length)
  hN : Lo ((p.length + 1) * (N * (M + E) ^ p.length))
  hE : Lo E
  hM : Lo M
/-- What a box holds when some coefficients have come. -/
def Vl (x : Rat) (p : List Rat) (pre : List (Fin p.length)) : Rat := pre.foldl (fun s i => s * x + cf p i.1) 0
theorem Vl_snoc (x : Rat) (p : List Rat) (pre : List (Fin p.length)) (i : Fin p.length) : Vl x p (pre ++ [i]) = Vl x p pre * x + cf p i.1 := by
  unfold Vl; rw [List.foldl_append]; rfl
theorem Vl_down (x : Rat) (p : List Rat) : ∀ k, k ≤ p.length → Vl x p (down p.length k) = evP (p.drop (p.length - k)) x
  | 0, _ => by rw [Nat.sub_zero, List.drop_length]; rfl
  | k + 1, h => by
    rw [down_succ (by omega), Vl_snoc, Vl_down x p k (by omega)]
    have e : p.drop (p.length - (k + 1)) = cf p (p.length - 1 - k) :: p.drop (p.length - k) := by
      rw [show p.length - (k + 1) = p.length - 1 - k by omega, List.drop_eq_getElem_cons (by omega), cf_at (by omega), show p.length - 1 - k + 1 = p.length - k by omega]
    rw [e]; rfl
theorem Vl_all (x : Rat) (p : List Rat) : Vl x p (down p.length p.length) = evP p x := by
  rw [Vl_down x p _ (Nat.le_refl _), Nat.sub_self, List.drop_zero]
theorem EvB.at {D N E M : Nat} {p : List Rat} {x : Rat} (h : EvB D N E M p x) : ∀ pre : List (Fin p.length), pre.length ≤ p.length → bd (D * E ^ pre.length) (pre.length * (N * (M + E) ^ pre.length)) (Vl x p pre) := by
  intro pre
  rw [← List.reverse_reverse pre]
  induction pre.reverse with
  | nil => intro _; exact bd.zero _ _
  | cons i l ih =>
    intro hl
    rw [List.reverse_cons] at hl ⊢
    rw [List.length_append] at hl
    have hl' : l.reverse.length + 1 ≤ p.length := hl
    have := (ev_step h.hx h.d0 h.e0 (h.hp i.1) (ih (by omega)) hl' h.hD h.hN h.hE h.hM).2.2
    rw [Vl_snoc, List.length_append]
    exact this
theorem EvB.step {D N E M : Nat} {p : List Rat} {x : Rat} (h : EvB D N E M p x) (pre : List (Fin p.length)) (i : Fin p.length) (hl : pre.length < p.length) : ∃ m, mulQ (Vl x p pre) x = some m ∧ addQ m (cf p i.1) = some (Vl x p (pre ++ [i])) := by
  have := ev_step h.hx h.d0 h.e0 (h.hp i.1) (h.at pre (by omega)) hl h.hD h.hN h.hE h.hM
  exact ⟨_, this.1, by rw [Vl_snoc]; exact this.2.1⟩
theorem EvB.fit {D N E M : Nat} {p : List Rat} {x : Rat} (h : EvB D N E M p x) (pre : List (Fin p.length)) (hl : pre.length ≤ p.length) : fitQ (Vl x p pre) := by
  have hb := h.at pre hl
  refine lim.fit (hb.lim90 (Nat.mul_pos h.d0 (Nat.pow_pos h.e0)) (Nat.lt_of_le_of_lt (Nat.mul_le_mul_left _ (Nat.pow_le_pow_right h.e0 hl)) h.hD) (Nat.lt_of_le_of_lt ?_ h.hN)) (by decide)
  have hME : 0 < M + E := by have := h.e0; omega
  exact Nat.mul_le_mul (by omega) (Nat.mul_le_mul_left _ (Nat.pow_le_pow_right hME hl))

/-- The value of a polynomial at a number does not fail, in whatever order the coefficients come. -/
structure EvG (p : List Rat) (x : Rat) : Prop where
  step : ∀ (pre : List (Fin p.length)) (i : Fin p.length), pre.length < p.length → ∃ m, mulQ (Vl x p pre) x = some m ∧ addQ m (cf p i.1) = some (Vl x p (pre ++ [i]))
  fit : ∀ pre : List (Fin p.length), pre.length ≤ p.length → fitQ (Vl x p pre)
theorem EvB.g {D N E M : Nat} {p : List Rat} {x : Rat} (h : EvB D N E M p x) : EvG p x := ⟨h.step, h.fit⟩
theorem EvG.fitP {p : List Rat} {x : Rat} (h : EvG p x) : fitQ (evP p x) := Vl_all x p ▸ h.fit (down p.length p.length) (by rw [down_length (Nat.le_refl _)]; exact Nat.le_refl _)

end Go.Proofs.YtffndcjmabjhiaaGreatDoor

namespace Go.Proofs.YtffndcjmabjhiaaGreatDoor
open Go.RowKit Num
open Go.Shelf
attribute [local go_sem] Oper.semAt_some

theorem backq_any {A : Option Addr} {n c : Nat} (w : World) : Calls Tryz.prog 173 #[.slice A n c] w (fun e w' => e = .returned (.func (.func 251) #[] #[.pointer (some ⟨w.heap.size, 0, none⟩)]) ∧ w' = w.alloc (.cells #[.slice A n c] 119)) := by
  have hmf : ∀ (fn : Fn) (first cap : Array Value) (w : World), (Instr.makeFunc fn first cap).run Tryz.prog w = .ok (.func fn first cap) w := fun _ _ _ _ => rfl
  go_enter Tryz.func173, Tryz.ntmps173
  go_wp2
  go_ret
  exact ⟨rfl, rfl⟩
theorem Pv.row_lt {w : World} {v : Value} {ql : List Rat} (hR : Pv w v ql) {k : Nat} (hk : rowOfQ v ql = some k) : k < w.heap.size := by
  obtain ⟨A, c, rfl, hc, hm, hx⟩ := hR
  unfold rowOfQ at hk
  split at hk
  · cases hk
  · rename_i hne
    have hp : 0 < ql.length := List.length_pos_iff.2 hne
    obtain ⟨b, o, rfl, hy⟩ := hx hp
    have : b < w.heap.size := cell_lt (hy 0 hp).1
    simp only [Value.ownBlock, Option.some.injEq] at hk
    omega
set_option maxHeartbeats 2000000 in
set_option maxRecDepth 100000 in
theorem pat_any {v : Value} {p : List Rat} {x : Rat} (w : World) (hv : Pv w v p) (hx : fitQ x) (hr : EvG p x) (hL : Laid w) :
    Calls Tryz.prog 79 #[v, .agg #[.string (numT (some x)), .string (denT (some x))]] w (RetR w (evP p x)) := by
  have HV := Lib.hid hv
  have HL0 := Lib.hid hL
  have M := Lib.hid (fun w => must_true w)
  have CV : Hid (∀ (w : World), Laid w → Calls Tryz.prog 63 #[.agg #[.string (numT (some x)), .string (denT (some x))]] w (RetB w true)) := Lib.hid (fun w hL => by
    have := qvalid_any (numT (some x)) (denT (some x)) w hL
    rwa [fit_ok hx] at this)
  have K : Hid (∀ (w : World), Laid w → Calls Tryz.prog 62 #[.int .i64 0] w (RetR w 0)) := Lib.hid (fun w hL => whole_any 0 (by decide) (by decide) w hL)
  have BQ := Lib.hid (fun (A : Option Addr) (n c : Nat) w => @backq_any A n c w)
  have b2 := below_up (below1 w (.cells #[.string (numT (some x)), .string (denT (some x))] 29)) (below1 _ (.cells #[.string ⟨#[]⟩, .string ⟨#[]⟩] 29))
  have Bx := (Blk.new w 29 [.string (numT (some x)), .string (denT (some x))]).alloc (.cells #[.string ⟨#[]⟩, .string ⟨#[]⟩] 29)
  have Bz := Blk.new2 w (.cells #[.string (numT (some x)), .string (denT (some x))] 29) 29 [.string ⟨#[]⟩, .string ⟨#[]⟩]
  obtain ⟨A, c, rfl, -, -, -⟩ := hv
  refine (callsIn_wide (n := 6)).1 ?_
  refine callsIn_of_wp_marks Tryz.func79 rfl trivial ?_ rfl
  simp only [Tryz.ntmps79, List.size_toArray, List.length_cons, List.length_nil, Nat.reduceAdd, Nat.reduceSub, Array.replicate_succ, Array.replicate_zero, List.push_toArray, List.append_toArray, List.nil_append, List.cons_append]
  gi_wp2_with (first
    | (refine ⟨trivial, ?_⟩; gi_at_call 63; refine (callsIn_wide.2 (CV.out _ (HL0.out.below b2))).mono ?_; rintro e w1 ⟨rfl, hb⟩; replace Bx := Bx.below hb; replace Bz := Bz.below hb; have hB := below_up b2 hb; clear hb)
    | (refine ⟨trivial, ?_⟩; gi_at_call 53; refine (callsIn_wide.2 (M.out _)).mono ?_; rintro e w' ⟨rfl, hw⟩; rw [hw]; clear hw)
    | (refine ⟨trivial, ?_⟩; gi_at_call 62; refine (callsIn_wide.2 (K.out _ (HL0.out.below hB))).mono ?_; rintro e w2 ⟨rfl, hb⟩; replace Bx := Bx.below hb; replace Bz := Bz.below hb; replace hB := below_up hB hb; clear hb)
    | (refine ⟨trivial, ?_⟩; gi_at_call 173; refine (callsIn_wide.2 (BQ.out _ _ _ _)).mono ?_; rintro e w3 ⟨rfl, hw3⟩))
  have HS := Lib.hid (fun (pre : List (Fin p.length)) (i : Fin p.length) hl => hr.step pre i hl)
  have HFT := Lib.hid (fun (pre : List (Fin p.length)) hl => hr.fit pre hl)
  have HAL := Lib.hid (Vl_all x p)
  have HFX := Lib.hid hx
  clear hr hx CV K BQ M b2
  generalize hr : evP p x = r at *
  have bl1 := below_up (below1 w2 (.cells #[.string (numT (some 0)), .string (denT (some 0))] 29)) (below1 _ (.cells #[.slice A p.length c] 119))
  obtain ⟨W0, hW0⟩ : ∃ W0, (w2.alloc (.cells #[.string (numT (some 0)), .string (denT (some 0))] 29)).alloc (.cells #[.slice A p.length c] 119) = W0 := ⟨_, rfl⟩
  have Bv : Blk W0 w2.heap.size 29 [.string (numT (some 0)), .string (denT (some 0))] := by rw [← hW0]; exact (Blk.new w2 _ _).alloc _
  have Bs : Blk W0 (w2.heap.size + 1) 119 [.slice A p.length c] := by rw [← hW0]; exact Blk.new2 w2 _ _ _
  have hsz : W0.heap.size = w2.heap.size + 2 := by rw [← hW0]; simp
  rw [hW0] at bl1 ⊢
  have Bx0 := Bx.below bl1
  have Bz0 := Bz.below bl1
  have hB0 := below_up hB bl1
  have hxl := Blk.lt Bx
  have hzl := Blk.lt Bz
  have hs0 := hB.size
  clear hw3 hW0 hr
  refine range_backQ (by omega) (Bs := w2.heap.size + 1) (v := .slice A p.length c) (ql := p) rfl (Bs.cell 0 rfl) (HV.out.below hB0) rfl w hB0 [w2.heap.size]
    (fun k hk => by
      rw [List.mem_singleton] at hk; subst hk
      exact ⟨by omega, by omega, by omega, fun e => by have := HV.out.row_lt e; omega⟩)
    (fun pre W => Blk W w.heap.size 29 [.string (numT (some x)), .string (denT (some x))] ∧ Blk W (w.heap.size + 1) 29 [.string ⟨#[]⟩, .string ⟨#[]⟩] ∧ Blk W w2.heap.size 29 [.string (numT (some (Vl x p pre))), .string (denT (some (Vl x p pre)))])
    (fun s W W' h _ hk => ⟨hk _ _ h.1 rfl, hk _ _ h.2.1 rfl, hk _ _ h.2.2 rfl⟩)
    ⟨Bx0, Bz0, Bv⟩
    (fun i a' W => ∃ B7, w2.heap.size < B7 ∧ Blk W B7 29 [.string (numT (some (cf p i.1))), .string (denT (some (cf p i.1)))] ∧ a' = { tmps := #[.slice A p.length c, .agg #[.string (numT (some x)), .string (denT (some x))], undef, .pointer (some ⟨w.heap.size, 0, none⟩), .pointer (some ⟨w.heap.size + 1, 0, none⟩), .pointer (some ⟨w2.heap.size, 0, none⟩), undef, .pointer (some ⟨B7, 0, none⟩), .agg #[.string (numT (some x)), .string (denT (some x))], .bool true, .tuple #[], .agg #[.string (numT (some 0)), .string (denT (some 0))], .slice A p.length c, .func (.func 251) #[] #[.pointer (some ⟨w2.heap.size + 1, 0, none⟩)], .int .i64 (i.1 : Nat), .agg #[.string (numT (some (cf p i.1))), .string (denT (some (cf p i.1)))], undef, undef, undef, undef, undef, undef], defers := [] })
    (fun i a' s W W' h _ hk => by
      obtain ⟨B7, h1, h2, h3⟩ := h
      exact ⟨B7, h1, hk _ _ h2 rfl, h3⟩) ?assign ?body ?done
  case assign =>
    rintro l pre i W K ⟨g1, g2, g3⟩ ht hK
    have hsW := ht.size
    dsimp only [encQ]
    have hKK := hK { tmps := #[.slice A p.length c, .agg #[.string (numT (some x)), .string (denT (some x))], undef, .pointer (some ⟨w.heap.size, 0, none⟩), .pointer (some ⟨w.heap.size + 1, 0, none⟩), .pointer (some ⟨w2.heap.size, 0, none⟩), undef, .pointer (some ⟨W.heap.size, 0, none⟩), .agg #[.string (numT (some x)), .string (denT (some x))], .bool true, .tuple #[], .agg #[.string (numT (some 0)), .string (denT (some 0))], .slice A p.length c, .func (.func 251) #[] #[.pointer (some ⟨w2.heap.size + 1, 0, none⟩)], .int .i64 (i.1 : Nat), .agg #[.string (numT (some (cf p i.1))), .string (denT (some (cf p i.1)))], undef, undef, undef, undef, undef, undef], defers := [] } (W.alloc (.cells #[.string (numT (some (cf p i.1))), .string (denT (some (cf p i.1)))] 29)) (below1 _ _) ⟨g1.alloc _, g2.alloc _, g3.alloc _⟩ ⟨W.heap.size, by omega, Blk.new W _ _, rfl⟩
    clear hK
    generalize cf p i.1 = ci at *
    gi_wp2
    exact hKK
  case body =>
    rintro l pre i a' W ⟨g1, g2, g3⟩ hbW htW ⟨B7, h7, gb, rfl⟩ hlen
    obtain ⟨m, hm1, hm2⟩ := HS.out pre i hlen
    have C1 := Lib.hid (fun W hL => pmul_c (HFT.out pre (by omega)) HFX.out hm1 W hL)
    have C2 := Lib.hid (fun W hL => padd_c (mulQ_fit hm1) (HV.out.fit i.1) hm2 W hL)
    have hW2 := htW.size
    clear hm1 hm2
    generalize hnv : Vl x p (pre ++ [i]) = nv at *
    have HNV := Lib.hid hnv
    clear hnv
    have hmixed : Tryz.prog.follows .mixedOrders = true := by kernel_rfl
    generalize Vl x p pre = ov at *
    generalize cf p i.1 = ci at *
    have hL1 := HL0.out.below hbW
    have v0 := g3.cell 0 (v := .string (numT (some ov))) rfl
    have v1 := g3.cell 1 (v := .string (denT (some ov))) rfl
    have x0 := g1.cell 0 (v := .string (numT (some x))) rfl
    have x1 := g1.cell 1 (v := .string (denT (some x))) rfl
    have c0 := gb.cell 0 (v := .string (numT (some ci))) rfl
    have c1 := gb.cell 1 (v := .string (denT (some ci))) rfl
    have f0 := g3.frozen 0
    have f1 := g3.frozen 1
    have hZ : Below W.heap.size W W.drew := (Below.refl _ _).drew
    have hgN := g3.below hZ
    gi_wp2
    gi_region_with_o (first
      | (refine ⟨trivial, ?_⟩; gi_at_call 168; (with_reducible refine (CallsIn.inRound l (callsIn_wide.2 (C1.out _ (hL1.below hZ)))).mono ?_); rintro e wN ⟨rfl, hb⟩; have hZ := below_up hZ hb; have hgN := hgN.below hb; have v0 := hgN.cell 0 (v := .string (numT (some ov))) rfl; have v1 := hgN.cell 1 (v := .string (denT (some ov))) rfl; have c0 := (gb.below hZ).cell 0 (v := .string (numT (some ci))) rfl; have c1 := (gb.below hZ).cell 1 (v := .string (denT (some ci))) rfl; have f0 := hgN.frozen 0; have f1 := hgN.frozen 1)
      | (refine ⟨trivial, ?_⟩; gi_at_call 61; (with_reducible refine (CallsIn.inRound l (callsIn_wide.2 (C2.out _ (hL1.below hZ)))).mono ?_); rintro e wN ⟨rfl, hb⟩; have hZ := below_up hZ hb; have hgN := hgN.below hb; have v0 := hgN.cell 0 (v := .string (numT (some ov))) rfl; have v1 := hgN.cell 1 (v := .string (denT (some ov))) rfl; have f0 := hgN.frozen 0; have f1 := hgN.frozen 1))
    all_goals gi_wp2
    all_goals refine ⟨(Turn.of_below hZ).trans ((Turn.setCell _ _ _ _ (by simp)).trans (Turn.setCell _ _ _ _ (by simp))), ((g1.below hZ).other (by omega) _ _).other (by omega) _ _, ((g2.below hZ).other (by omega) _ _).other (by omega) _ _, ?_⟩
    all_goals (rw [HNV.out]; exact (hgN.set 0 _).set 1 _)
  case done =>
    rintro D W hD ⟨g1, g2, g3⟩ hbW htW hK
    rw [HAL.out] at g3
    have v0 := g3.cell 0 (v := .string (numT (some r))) rfl
    have v1 := g3.cell 1 (v := .string (denT (some r))) rfl
    have z0 := g2.cell 0 (v := .string ⟨#[]⟩) rfl
    have z1 := g2.cell 1 (v := .string ⟨#[]⟩) rfl
    have f0 := g2.frozen 0
    have f1 := g2.frozen 1
    gi_wp2
    have hK2 := mark_set (mark_set hK ⟨w.heap.size + 1, 0, none⟩ (.string (numT (some r)))) ⟨w.heap.size + 1, 1, none⟩ (.string (denT (some r)))
    have GZ := (g2.set 0 (.string (numT (some r)))).set 1 (.string (denT (some r)))
    have e0 := cell_mark hK2 (GZ.cell 0 (v := .string (numT (some r))) rfl)
    have e1 := cell_mark hK2 (GZ.cell 1 (v := .string (denT (some r))) rfl)
    refine ⟨by simp, .inl ⟨_, _, rfl, run_takeDeferred hK2, ?_⟩⟩
    refine ⟨.agg #[.string (numT (some r)), .string (denT (some r))], by simp [results, Tryz.results79, go_sem, e0, e1], rfl, ?_⟩
    exact below_mark ((hbW.setCell (by dsimp; omega) _).setCell (by dsimp; omega) _) (Nat.le_refl _) (by omega)

end Go.Proofs.YtffndcjmabjhiaaGreatDoor

namespace Go.Proofs.YtffndcjmabjhiaaGreatDoor
open Go.RowKit Num
open Go.Shelf

set_option maxRecDepth 100000 in
theorem cl_eval {v : Value} {p : List Rat} {x : Rat} {B2 B3 : Nat} (W : World) (h2 : W.cell? ⟨B2, 0, none⟩ = some v) (h3 : Blk W B3 29 [.string (numT (some x)), .string (denT (some x))]) (hv : Pv W v p) (hx : fitQ x) (hr : EvG p x) (hL : Laid W) :
    Calls Tryz.prog 78 #[.pointer (some ⟨B2, 0, none⟩), .pointer (some ⟨B3, 0, none⟩)] W (RetR W (evP p x)) := by
  have bz := below1 W (.cells #[.string ⟨#[]⟩, .string ⟨#[]⟩] 29)
  have C := Lib.hid (pat_any _ (hv.below bz) hx hr (hL.below bz))
  have Bz := Blk.new W 29 [.string ⟨#[]⟩, .string ⟨#[]⟩]
  have k2 := (bz.cell (cell_lt h2)).trans h2
  have k3 := (h3.below bz).cell 0 (v := .string (numT (some x))) rfl
  have k4 := (h3.below bz).cell 1 (v := .string (denT (some x))) rfl
  obtain ⟨A, c, rfl, -, -, -⟩ := hv
  clear hr hx
  generalize evP p x = r at *
  go_enter Tryz.func78, Tryz.ntmps78
  go_wp2_with (go_at_call 79; (with_reducible refine C.out.mono ?_); rintro e w1 ⟨rfl, hb⟩; replace Bz := Bz.below hb; have hB := below_up bz hb; clear hb; have f0 := Bz.frozen 0; have f1 := Bz.frozen 1; have z0 := Bz.cell 0 (v := .string ⟨#[]⟩) rfl; have z1 := Bz.cell 1 (v := .string ⟨#[]⟩) rfl)
  have ZF := (Bz.set 0 (.string (numT (some r)))).set 1 (.string (denT (some r)))
  have e0 := ZF.cell 0 (v := .string (numT (some r))) rfl
  have e1 := ZF.cell 1 (v := .string (denT (some r))) rfl
  refine bodyPost_ret (v := .agg #[.string (numT (some r)), .string (denT (some r))]) (by simp [results, Tryz.results78, go_sem, e0, e1]) rfl ⟨rfl, ?_⟩
  exact (hB.setCell (by dsimp; omega) _).setCell (by dsimp; omega) _

set_option maxHeartbeats 1000000 in
set_option maxRecDepth 100000 in
theorem api_eval {v : Value} {p : List Rat} {x : Rat} (w : World) (hv : Pv w v p) (hp : Vp p) (hx : fitQ x) (hr : EvG p x) (hL : Laid w) :
    Calls Tryz.prog 22 #[v, .agg #[.string (numT (some x)), .string (denT (some x))]] w (RetQk w (some (evP p x)) 0) := by
  have HV := Lib.hid hv
  have hmf : ∀ (fn : Fn) (first cap : Array Value) (w : World), (Instr.makeFunc fn first cap).run Tryz.prog w = .ok (.func fn first cap) w := fun _ _ _ _ => rfl
  obtain ⟨A, c, rfl, -, -, -⟩ := hv
  obtain ⟨w3, hw3⟩ : ∃ w3, (((w.alloc (.cells #[.slice A p.length c] 24)).alloc (.cells #[.string (numT (some x)), .string (denT (some x))] 29)).alloc (.cells #[.string ⟨#[]⟩, .string ⟨#[]⟩] 29)).alloc (.cells #[.slice A p.length c] 119) = w3 := ⟨_, rfl⟩
  have hb3 : Below w.heap.size w w3 := by rw [← hw3]; exact below_up (below_up (below_up (below1 _ _) (below1 _ _)) (below1 _ _)) (below1 _ _)
  have B2 : Blk w3 w.heap.size 24 [.slice A p.length c] := by rw [← hw3]; exact (((Blk.new w _ _).alloc _).alloc _).alloc _
  have B3 : Blk w3 (w.heap.size + 1) 29 [.string (numT (some x)), .string (denT (some x))] := by rw [← hw3]; exact ((Blk.new2 w _ _ _).alloc _).alloc _
  have B5 : Blk w3 (w.heap.size + 1 + 1) 29 [.string ⟨#[]⟩, .string ⟨#[]⟩] := by rw [← hw3]; exact (Blk.new3 w _ _ _ _).alloc _
  have B4 : Blk w3 (w.heap.size + 1 + 1 + 1) 119 [.slice A p.length c] := by
    have h := Blk.new3 (w.alloc (.cells #[.slice A p.length c] 24)) (.cells #[.string (numT (some x)), .string (denT (some x))] 29) (.cells #[.string ⟨#[]⟩, .string ⟨#[]⟩] 29) 119 [.slice A p.length c]
    rw [World.size_alloc] at h
    rw [← hw3]; exact h
  have hall : AllV w3 (w.heap.size + 1 + 1 + 1) 1 := fun i hi => by
    obtain rfl : i = 0 := by omega
    exact ⟨_, p, B4.cell 0 rfl, HV.out.below hb3, hp.1, hp.2.1⟩
  have CT := Lib.hid (try_r (G := 78) (caps := #[.pointer (some ⟨w.heap.size, 0, none⟩), .pointer (some ⟨w.heap.size + 1, 0, none⟩)]) (r := evP p x) w3 (enters_of Tryz.func78 (by kernel_rfl) rfl) (by omega) hall
    (fun W hb => cl_eval W ((B2.below hb).cell 0 rfl) (B3.below hb) (HV.out.below (below_up hb3 hb)) hx hr (hL.below (below_up hb3 hb))) (hL.below hb3))
  have HB3 := Lib.hid hb3
  clear B2 B3 B4 hall hp hr hb3 hx
  generalize evP p x = r at *
  subst hw3
  go_enter Tryz.func22, Tryz.ntmps22
  go_wp2_with (go_at_call 77; (with_reducible refine CT.out.mono ?_); rintro e w1 ⟨rfl, hb⟩; replace B5 := B5.below hb; have hB := below_up HB3.out hb; clear hb; have f0 := B5.frozen 0; have f1 := B5.frozen 1; have z0 := B5.cell 0 (v := .string ⟨#[]⟩) rfl; have z1 := B5.cell 1 (v := .string ⟨#[]⟩) rfl)
  have ZF := (B5.set 0 (.string (numT (some r)))).set 1 (.string (denT (some r)))
  have e0 := ZF.cell 0 (v := .string (numT (some r))) rfl
  have e1 := ZF.cell 1 (v := .string (denT (some r))) rfl
  refine bodyPost_ret (v := .tuple #[.agg #[.string (numT (some r)), .string (denT (some r))], .int .i64 0]) (by simp [results, Tryz.results22, go_sem, e0, e1]) rfl ⟨rfl, ?_⟩
  exact (hB.setCell (by dsimp; omega) _).setCell (by dsimp; omega) _
set_option maxRecDepth 100000 in
theorem cl_gcd {v u : Value} {p q r : List Rat} {B2 B3 : Nat} (W : World) (h2 : W.cell? ⟨B2, 0, none⟩ = some v) (h3 : W.cell? ⟨B3, 0, none⟩ = some u) (hv : Pv W v p) (hu : Pv W u q) (hp : p.length ≤ 13) (hq : q.length ≤ 13) (hr : gcdO q.length p q = some r) (hL : Laid W) :
    Calls Tryz.prog 71 #[.pointer (some ⟨B2, 0, none⟩), .pointer (some ⟨B3, 0, none⟩)] W (RetL7 W r) := by
  have C := Lib.hid (pgcd_any W hv hu hp hq hr hL)
  obtain ⟨A, c, rfl, -, -, -⟩ := hv
  obtain ⟨A', c', rfl, -, -, -⟩ := hu
  clear hr hp hq
  have CC := Lib.hid (fun (W : World) (x : Value) (hx : Pv W x r) => clone_any W hx)
  go_enter Tryz.func71, Tryz.ntmps71
  go_wp2_with (first
    | (go_at_call 73; (with_reducible refine C.out.mono ?_); rintro e w1 ⟨x, rfl, hx, hb⟩)
    | (go_at_call 72; (with_reducible refine (CC.out w1 x hx).mono ?_); rintro e w2 ⟨y, rfl, hy, hb2⟩))
  go_ret
  exact ⟨y, rfl, hy.pv hx.small hx.fit, below_up hb hb2⟩
set_option maxHeartbeats 1000000 in
set_option maxRecDepth 100000 in
theorem api_gcd {v u : Value} {p q r : List Rat} (w : World) (hv : Pv w v p) (hu : Pv w u q) (hp : Vp p) (hq : Vp q) (hr : gcdO q.length p q = some r) (hL : Laid w) :
    Calls Tryz.prog 20 #[v, u] w (RetLE w r) := by
  have HV := Lib.hid hv
  have HU := Lib.hid hu
  have hmf : ∀ (fn : Fn) (first cap : Array Value) (w : World), (Instr.makeFunc fn first cap).run Tryz.prog w = .ok (.func fn first cap) w := fun _ _ _ _ => rfl
  obtain ⟨A, c, rfl, -, -, -⟩ := hv
  obtain ⟨A', c', rfl, -, -, -⟩ := hu
  obtain ⟨w3, hw3⟩ : ∃ w3, ((w.alloc (.cells #[.slice A p.length c] 24)).alloc (.cells #[.slice A' q.length c'] 24)).alloc (.cells #[.slice A p.length c, .slice A' q.length c'] 119) = w3 := ⟨_, rfl⟩
  have hb3 : Below w.heap.size w w3 := by rw [← hw3]; exact below_up (below_up (below1 _ _) (below1 _ _)) (below1 _ _)
  have B2 : Blk w3 w.heap.size 24 [.slice A p.length c] := by rw [← hw3]; exact ((Blk.new w _ _).alloc _).alloc _
  have B3 : Blk w3 (w.heap.size + 1) 24 [.slice A' q.length c'] := by rw [← hw3]; exact (Blk.new2 w _ _ _).alloc _
  have B4 : Blk w3 (w.heap.size + 1 + 1) 119 [.slice A p.length c, .slice A' q.length c'] := by rw [← hw3]; exact Blk.new3 w _ _ _ _
  have hall : AllV w3 (w.heap.size + 1 + 1) 2 := fun i hi => by
    obtain rfl | rfl : i = 0 ∨ i = 1 := by omega
    · exact ⟨_, p, B4.cell 0 rfl, HV.out.below hb3, hp.1, hp.2.1⟩
    · exact ⟨_, q, B4.cell 1 rfl, HU.out.below hb3, hq.1, hq.2.1⟩
  have CT := Lib.hid (try_l (G := 71) (caps := #[.pointer (some ⟨w.heap.size, 0, none⟩), .pointer (some ⟨w.heap.size + 1, 0, none⟩)]) (r := r) w3 (enters_of Tryz.func71 (by kernel_rfl) rfl) (by omega) hall
    (fun W hb => cl_gcd W ((B2.below hb).cell 0 rfl) ((B3.below hb).cell 0 rfl) (HV.out.below (below_up hb3 hb)) (HU.out.below (below_up hb3 hb)) hp.1 hq.1 hr (hL.below (below_up hb3 hb))) (hL.below hb3))
  have HB3 := Lib.hid hb3
  clear B2 B3 B4 hall hp hq hr hb3
  subst hw3
  go_enter Tryz.func20, Tryz.ntmps20
  go_wp2_with (go_at_call 68; (with_reducible refine CT.out.mono ?_); rintro e w1 ⟨x, rfl, hx, hb⟩)
  go_ret2
  exact ⟨x, rfl, hx, below_up HB3.out hb⟩

end Go.Proofs.YtffndcjmabjhiaaGreatDoor
