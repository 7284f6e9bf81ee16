/- The walk of package integer's 'times' of groups of digits. Conditions: sizes. -/
import Derived.Test.YtcpkejpdpohfeaaGreatDoorI5
namespace Go.Proofs.YtcpkejpdpohfeaaGreatDoor
open Go.RowKit Num
open Go.Shelf
attribute [local go_sem] Oper.semAt_some

theorem addr_add (b o j : Nat) : (⟨b, o, none⟩ : Addr).add j = ⟨b, o + j, none⟩ := by unfold Addr.add; split <;> simp_all

/-- 'append(number{r}, xs...)' within a fence: the literal lies in a new block. -/
theorem app_cons_own {F : Fence} {n : Nat} {W : World} {ops : Array Oper} {rest : List Oper} {o : Oper} {a : Act} {Q : Exit → Act → World → Prop} (hgd : o.guard = none) (s x : Operand)
    (ho : o.op = .call { callee := .builtin .append, args := #[s, x], argTypes := #[48, 48] }) (r : Int) (v : Value) (ys : List Int)
    (hs : a.eval s = .slice (some ⟨W.heap.size, 0, none⟩) 1 1) (hx : a.eval x = v) (hv : Rd W v ys) (hl : ys.length ≤ 900000)
    (h : ∀ A c w', Rd w' (.slice A (ys.length + 1) c) (r :: ys) → Below W.heap.size W w' → (∀ k, (Value.slice A (ys.length + 1) c).ownBlock = some k → W.heap.size ≤ k) → wpListIn F n Tryz.prog ops Q rest (a.put o.dst (.slice A (ys.length + 1) c)) w') :
    wpListIn F n Tryz.prog ops Q (o :: rest) a (W.alloc (.cells #[.int .i64 r] 3)) := by
  obtain ⟨i0, hi, hz0, hz1, hz2⟩ := info_parts Tryz.info3
  have hown : (W.alloc (.cells #[.int .i64 r] 3)).ownsRow W.heap.size 3 1 (.slice (some ⟨W.heap.size, 0, none⟩) 1 1) 1 [.int .i64 r] :=
    World.ownsRow_lit W #[.int .i64 r] 1 (Nat.le_refl _) (by unfold maxLen; omega) rfl
  have fin : ∀ v' w', w'.ownsRow W.heap.size 3 1 v' (r :: ys).length ((r :: ys).map (Value.int .i64)) → Below W.heap.size W w' → wpListIn F n Tryz.prog ops Q rest (a.put o.dst v') w' := by
    intro v' w' h1 h2
    have h3 := Rd.own h1 (by simp; omega)
    obtain ⟨A, c, rfl, _⟩ := id h3
    exact h A c w' h3 h2 (fun k hk => (h1.lt k hk).1)
  obtain ⟨A, c, rfl, hc, hm, hy⟩ := hv
  cases A with
  | none =>
    obtain rfl := hc.2 rfl
    have hn : ys = [] := by
      rcases Nat.eq_zero_or_pos ys.length with h0 | h0
      · exact List.eq_nil_of_length_eq_zero h0
      · obtain ⟨b, o, h1, _⟩ := hy h0; cases h1
    subst hn
    refine wpListIn_plain hgd fun K hK' => ?_
    have hrun := run_append_owned_none (P := Tryz.prog) (w := W.alloc (.cells #[.int .i64 r] 3)) W.heap.size 48 o.type 3 i0 1 Tryz.underlying48 hi _ 1 _ hown
    unfold Oper.wpIn
    refine ⟨?_, ?_⟩
    · simp [Oper.about, ho, resolve, Target.leads, Sem.run_pure]
    · rw [Oper.semAt_plain F _ _ (by rw [ho]; intro c hc'; cases hc')]
      simp [execOp, ho, resolve, invoke, builtin, hs, hx, hrun, Result.andThen]
      exact hK' _ _ (fin _ _ hown (below1 _ _))
  | some ad =>
    refine wpListIn_append_own _ hgd s x 48 ho W.heap.size 3 i0 (.int .i64 0) 1 8 Tryz.underlying48 hi hz0 hz1 hz2 rfl (by decide) _ 1 [.int .i64 r] hs hown ad ys.length c (ys.map (Value.int .i64)) hx (by simp) ?_ ?_ ?_ ?_ ?_ ?_
    · intro j u hj
      rw [List.getElem?_map] at hj
      cases hq : ys[j]? with
      | none => rw [hq] at hj; cases hj
      | some z =>
        rw [hq] at hj
        have hjl : j < ys.length := (List.getElem?_eq_some_iff.1 hq).1
        obtain ⟨b, o, h1, h2⟩ := hy (by omega)
        cases h1
        have h3 := cell_up (.cells #[.int .i64 r] 3) (h2 j hjl)
        rw [hq] at h3
        simp only [Option.map_some, Option.some.injEq] at hj
        subst hj
        rw [addr_add]
        simpa using h3
    · intro u hu
      obtain ⟨z, _, rfl⟩ := List.mem_map.1 hu
      rfl
    · unfold maxLen; omega
    · omega
    · simp
    · intro v' w' hown' hg _
      refine fin v' w' (by rw [List.length_cons, Nat.add_comm]; exact hown') ?_
      exact (below1 _ _).grown hg (by simp) (fun k hk => by cases hk; exact Nat.le_refl _)

theorem app_cons_in {F : Fence} {n : Nat} {W : World} {ops : Array Oper} {rest : List Oper} {o : Oper} {a : Act} {Q : Exit → Act → World → Prop} (hgd : o.guard = none) (s x : Operand)
    (ho : o.op = .call { callee := .builtin .append, args := #[s, x], argTypes := #[48, 48] }) (r : Int) (v : Value) (ys : List Int)
    (hs : a.eval s = .slice (some ⟨W.heap.size, 0, none⟩) 1 1) (hx : a.eval x = v) (hv : Rd W v ys) (hl : ys.length ≤ 900000)
    (h : ∀ A c w', Rd w' (.slice A (ys.length + 1) c) (r :: ys) → Below W.heap.size W w' → wpListIn F n Tryz.prog ops Q rest (a.put o.dst (.slice A (ys.length + 1) c)) w') :
    wpListIn F n Tryz.prog ops Q (o :: rest) a (W.alloc (.cells #[.int .i64 r] 3)) :=
  app_cons_own hgd s x ho r v ys hs hx hv hl fun A c w' h1 h2 _ => h A c w' h1 h2

/-- A store into a box that holds a slice leaves the numbers of another slice as they are. -/
theorem Rd.set_box {W : World} {B : Nat} {t : TypeId} {A0 : Option Addr} {n0 c0 : Nat} (hb : Boxed W B t (.slice A0 n0 c0)) {v : Value} {xs : List Int} (hr : Rd W v xs) (u : Value) : Rd (W.setCell ⟨B, 0, none⟩ u) v xs := by
  obtain ⟨A, c, rfl, hc, hm, hx⟩ := hr
  refine ⟨A, c, rfl, hc, hm, fun h0 => ?_⟩
  obtain ⟨b, o, rfl, hy⟩ := hx h0
  refine ⟨b, o, rfl, fun j hj => ?_⟩
  refine (World.cell?_of_block (w := W) (a := ⟨b, o + j, none⟩) (Below.heap_setCell _ _ _ _ (fun e => ?_))).trans (hy j hj)
  have h1 := hy j hj
  have e' : b = B := e
  rw [e'] at h1
  have h2 : W.heap[B]? = some (.cells #[.slice A0 n0 c0] t (0, 0)) := hb
  simp only [World.cell?, h2] at h1
  cases hj' : o + j with
  | zero => rw [hj'] at h1; simp at h1
  | succ k => rw [hj'] at h1; simp at h1
theorem below_drewL {W w1 : World} (h : Below W.drew.heap.size W.drew w1) : Below W.heap.size W w1 := ⟨h.os, h.tape, h.output, h.size, h.block⟩
theorem boxed_below {W W' : World} {B : Nat} {t : TypeId} {v : Value} (h : Boxed W B t v) (hb : Below W.heap.size W W') : Boxed W' B t v := (hb.block B h.lt).trans h

/-! ### What the rounds come to -/
def dgn (b i : Nat) : Nat := (nth (dg 10000 b) i).toNat
theorem dgn_eq (b i : Nat) : nth (dg 10000 b) i = (dgn b i : Int) := by have := dgat b i; unfold dgn nth; omega
theorem dgn_le (b i : Nat) : dgn b i ≤ 9999 := by have := dgat b i; unfold dgn nth; omega
/-- The product of a with the digits that have come, the highest first. -/
def tm (a b : Nat) (pre : List (Fin (dg 10000 b).length)) : Nat := pre.foldl (fun t x => t * 10000 + a * dgn b x.1) 0
theorem tm_snoc (a b : Nat) (pre : List (Fin (dg 10000 b).length)) (x : Fin (dg 10000 b).length) : tm a b (pre ++ [x]) = tm a b pre * 10000 + a * dgn b x.1 := by unfold tm; rw [List.foldl_append]; rfl
theorem tm_rec (a b : Nat) : ∀ (pre : List (Fin (dg 10000 b).length)) (t : Nat), t + a ≤ a * 10000 ^ (0 + 0) ∨ True → pre.foldl (fun t x => t * 10000 + a * dgn b x.1) t + a ≤ (t + a) * 10000 ^ pre.length
  | [], t, _ => by simp
  | x :: pre, t, _ => by
    rw [List.foldl_cons]
    have ih := tm_rec a b pre (t * 10000 + a * dgn b x.1) (.inr trivial)
    refine Nat.le_trans ih ?_
    rw [List.length_cons, Nat.pow_succ, Nat.mul_comm (10000 ^ pre.length), ← Nat.mul_assoc]
    refine Nat.mul_le_mul_right _ ?_
    have := Nat.mul_le_mul_left a (dgn_le b x.1)
    omega
theorem tm_le (a b : Nat) (pre : List (Fin (dg 10000 b).length)) : tm a b pre + a ≤ a * 10000 ^ pre.length := by
  have := tm_rec a b pre 0 (.inr trivial)
  rw [Nat.zero_add] at this
  exact this
theorem tm_down (a b : Nat) : ∀ k, k ≤ (dg 10000 b).length → ((tm a b (down (dg 10000 b).length k) : Nat) : Int) = a * nv 10000 ((dg 10000 b).drop ((dg 10000 b).length - k))
  | 0, _ => by rw [Nat.sub_zero, List.drop_of_length_le (Nat.le_refl _)]; simp [tm, down, nv]
  | k + 1, h => by
    rw [down_succ (by omega), tm_snoc, Int.natCast_add, Int.natCast_mul, Int.natCast_mul, tm_down a b k (by omega), ← dgn_eq]
    have e : (dg 10000 b).drop ((dg 10000 b).length - (k + 1)) = nth (dg 10000 b) ((dg 10000 b).length - 1 - k) :: (dg 10000 b).drop ((dg 10000 b).length - k) := by
      rw [List.drop_eq_getElem_cons (by omega)]
      congr 1
      · unfold nth
        rw [List.getElem?_eq_getElem (by omega)]
        simp only [Option.getD_some]
        congr 1
        omega
      · congr 1; omega
    rw [e, nv]
    generalize nv 10000 ((dg 10000 b).drop ((dg 10000 b).length - k)) = N
    show (a : Int) * N * ((10000 : Nat) : Int) + (a : Int) * nth (dg 10000 b) ((dg 10000 b).length - 1 - k) = _
    rw [Int.mul_add, Int.mul_comm ((10000 : Nat) : Int) N, ← Int.mul_assoc, Int.add_comm]
theorem tm_all (a b : Nat) : tm a b (down (dg 10000 b).length (dg 10000 b).length) = a * b := by
  have := tm_down a b _ (Nat.le_refl _)
  rw [Nat.sub_self, List.drop_zero, nv_dg (by omega), ← Int.natCast_mul] at this
  omega
theorem dg_shift {t : Nat} (h : 0 < t) : dg 10000 (t * 10000) = 0 :: dg 10000 t := by
  rw [dg_pos (by omega) (by omega), Nat.mul_mod_left, Nat.mul_div_cancel _ (by omega)]; rfl

set_option maxRecDepth 100000 in
set_option maxHeartbeats 1000000 in
theorem times_any (a b : Nat) (v u : Value) (w : World) (hv : Rd w v (dg 10000 a)) (hu : Rd w u (dg 10000 b)) (hs : a * 10000 ^ (dg 10000 b).length < big) :
    Calls Tryz.prog 41 #[v, u] w (RetN w (a * b)) := by
  have BK := fun W (h : Rd W u (dg 10000 b)) => backward_any u (dg 10000 b) W h
  have HV := Lib.hid hv
  have HU := Lib.hid hu
  obtain ⟨A, c, rfl, _, _, _⟩ := hv
  obtain ⟨A', c', rfl, _, _, _⟩ := hu
  refine (callsIn_wide (n := 6)).1 ?_
  refine callsIn_of_wp_marks Tryz.func41 rfl trivial ?_ rfl
  simp only [Tryz.ntmps41, List.size_toArray, List.length_cons, List.length_nil, Nat.reduceAdd, Nat.reduceSub, Array.replicate_succ, Array.replicate_zero, List.push_toArray, List.append_toArray, List.nil_append, List.cons_append]
  gi_wp2_with (refine ⟨trivial, ?_⟩; gi_at_call 60; refine (callsIn_wide.2 (BK _ (HU.out.below (below2 _ _ _)))).mono ?_; rintro e w' ⟨rfl, rfl⟩)
  obtain ⟨W0, hW0⟩ : ∃ W0, ((w.alloc (.cells #[.slice A (dg 10000 a).length c] 48)).alloc (.cells #[.slice none 0 0] 48)).alloc (.cells #[.slice A' (dg 10000 b).length c'] 48) = W0 := ⟨_, rfl⟩
  have hsz : W0.heap.size = w.heap.size + 3 := by rw [← hW0]; simp
  have hB0 : Below w.heap.size w W0 := by rw [← hW0]; exact (below2 _ _ _).alloc (by simp; omega) _
  have bv : Boxed W0 w.heap.size 48 (.slice A (dg 10000 a).length c) := by rw [← hW0]; exact ((Boxed.new _ _ _).alloc _).alloc _
  have bo : Boxed W0 (w.heap.size + 1) 48 (.slice none 0 0) := by
    rw [← hW0]; have := (Boxed.new (w.alloc (.cells #[.slice A (dg 10000 a).length c] 48)) 48 (.slice none 0 0)).alloc (.cells #[.slice A' (dg 10000 b).length c'] 48)
    rwa [World.size_alloc] at this
  have bl : W0.cell? ⟨w.heap.size + 1 + 1, 0, none⟩ = some (.slice A' (dg 10000 b).length c') := by
    rw [← hW0]; have := cell_new1 ((w.alloc (.cells #[.slice A (dg 10000 a).length c] 48)).alloc (.cells #[.slice none 0 0] 48)) (.slice A' (dg 10000 b).length c') 48
    simpa using this
  rw [hW0]
  clear hW0
  refine range_back (by omega) (Bs := w.heap.size + 1 + 1) (v := .slice A' (dg 10000 b).length c') (xs := dg 10000 b) rfl bl (HU.out.below hB0) rfl w hB0 [w.heap.size + 1]
    (fun k hk => by
      rw [List.mem_singleton] at hk; subst hk
      exact ⟨by omega, by omega, by omega, fun e => by have := HU.out.row_lt e; omega⟩)
    (fun pre W => ∃ vo, Boxed W (w.heap.size + 1) 48 vo ∧ Rd W vo (dg 10000 (tm a b pre)) ∧ Boxed W w.heap.size 48 (.slice A (dg 10000 a).length c))
    (fun _ _ _ => False)
    (fun s X Y hs _ hk => by obtain ⟨vo, h1, h2, h3⟩ := hs; exact ⟨vo, boxedCO hk h1, h2.cellsOnly hk, boxedCO hk h3⟩)
    (fun _ _ _ _ hs _ _ => hs)
    ⟨_, bo, by rw [show tm a b [] = 0 from rfl, dg_zero]; exact Rd.nil _, bv⟩
    (fun x => { tmps := #[.slice A (dg 10000 a).length c, .slice A' (dg 10000 b).length c', .pointer (some ⟨w.heap.size, 0, none⟩), undef, .slice none 0 0, .pointer (some ⟨w.heap.size + 1, 0, none⟩), undef, .int .i64 (nth (dg 10000 b) x.1), .slice A' (dg 10000 b).length c', .func (.func 78) #[] #[.pointer (some ⟨w.heap.size + 1 + 1, 0, none⟩)], .int .i64 (x.1 : Nat), .int .i64 (nth (dg 10000 b) x.1), undef, undef, undef, undef, undef, undef, undef, undef, undef, undef, undef, undef], defers := [] }) ?assign ?body ?done ?stop
  case assign =>
    intro l x W K hK
    gi_wp2
    exact hK
  case body =>
    rintro l pre x W ⟨vo, hbo, hro, hbv⟩ hbW htW hlen
    have hbd := tm_le a b pre
    have hpw : a * 10000 ^ pre.length * 10000 ≤ a * 10000 ^ (dg 10000 b).length := by
      rw [Nat.mul_assoc, ← Nat.pow_succ]; exact Nat.mul_le_mul_left _ (Nat.pow_le_pow_right (by omega) (by omega))
    have hdl := Nat.mul_le_mul_left a (dgn_le b x.1)
    have htb : tm a b pre * 10000 + a * dgn b x.1 < big := by omega
    have hTs := Lib.hid (tm_snoc a b pre x)
    have hq := dgn_le b x.1
    rw [dgn_eq]
    have ha : a < big := by
      rcases Nat.eq_zero_or_pos a with h | h
      · rw [h]; unfold big; exact Nat.pow_pos (by omega)
      · omega
    generalize tm a b pre = T at *
    generalize dgn b x.1 = q at *
    clear hbd hpw hdl hlen hs
    have hco := hbo.cell
    have hfo := hbo.frozen
    have hcv := hbv.cell
    have HBO := Lib.hid hbo
    have HBV := Lib.hid hbv
    have HRO := Lib.hid hro
    obtain ⟨A0, c0, rfl, _, _, _⟩ := hro
    clear hbo hbv
    have hmixed : Tryz.prog.follows .mixedOrders = true := by kernel_rfl
    have fin : ∀ (W1 : World) (A1 : Option Addr) (n1 c1 : Nat), Boxed W1 (w.heap.size + 1) 48 (.slice A1 n1 c1) → Boxed W1 w.heap.size 48 (.slice A (dg 10000 a).length c) → Turn [w.heap.size + 1] W W1 →
        ∀ (w2 : World) (A2 : Option Addr) (n2 c2 : Nat), Below W1.heap.size W1 w2 → Rd w2 (.slice A2 n2 c2) (dg 10000 (T * 10000 + a * q)) →
        Turn [w.heap.size + 1] W (w2.setCell ⟨w.heap.size + 1, 0, none⟩ (.slice A2 n2 c2)) ∧ ∃ vo, Boxed (w2.setCell ⟨w.heap.size + 1, 0, none⟩ (.slice A2 n2 c2)) (w.heap.size + 1) 48 vo ∧
          Rd (w2.setCell ⟨w.heap.size + 1, 0, none⟩ (.slice A2 n2 c2)) vo (dg 10000 (tm a b (pre ++ [x]))) ∧ Boxed (w2.setCell ⟨w.heap.size + 1, 0, none⟩ (.slice A2 n2 c2)) w.heap.size 48 (.slice A (dg 10000 a).length c) := by
      intro W1 A1 n1 c1 b1 b2 ht w2 A2 n2 c2 hb hr
      refine ⟨(ht.trans (Turn.of_below hb)).trans (Turn.setCell _ _ _ _ (by simp)), _, (boxed_below b1 hb).set _, ?_, (boxed_below b2 hb).other (by omega) _⟩
      rw [hTs.out]
      exact hr.set_box (boxed_below b1 hb) _
    rcases Nat.eq_zero_or_pos T with h0 | h0
    · have e0 : dg 10000 T = [] := by rw [h0, dg_zero]
      have e1 : dg 10000 (T * 10000) = [] := by rw [h0, Nat.zero_mul, dg_zero]
      have FIN := Lib.hid (fin W A0 (dg 10000 T).length c0 HBO.out HBV.out (Turn.refl _ _))
      clear fin
      rw [e0] at hco HBO HRO
      simp only [List.length_nil] at hco HBO HRO
      rw [← e1] at HRO
      clear e0 e1 h0
      gi_wp2
      gi_region_with_o (first
        | (refine ⟨trivial, ?_⟩; gi_at_call 64; (with_reducible refine (CallsIn.inRound l (callsIn_wide.2 (by_any a q _ W.drew (HV.out.below hbW.drew) ha hq))).mono ?_); rintro e w1 ⟨v1, rfl, hr1, hb1⟩; have hbl1 := below_drewL hb1; have hco1 := (hbl1.cell (cell_lt hco)).trans hco)
        | (refine ⟨trivial, ?_⟩; gi_at_call 43; (with_reducible refine (CallsIn.inRound l (callsIn_wide.2 (plus_any (T * 10000) (a * q) _ _ w1 (HRO.out.below hbl1) hr1 htb))).mono ?_); rintro e w2 ⟨v2, rfl, hr2, hb2⟩; obtain ⟨A2, c2, rfl, _⟩ := id hr2; have hbl2 := below_up hbl1 hb2; have hco2 := (boxed_below HBO.out hbl2).cell; have hfo2 := (boxed_below HBO.out hbl2).frozen))
      all_goals exact FIN.out w2 A2 _ c2 hbl2 hr2
    · have hlt : (0 : Int) < ((dg 10000 T).length : Int) := by
        have : dg 10000 T ≠ [] := fun e => by rw [dg_eq_nil (by omega)] at e; omega
        have := List.length_pos_iff.2 this
        omega
      have hle : (dg 10000 T).length ≤ 900000 := by have := dg_big (show T < big by omega); omega
      have HS := Lib.hid (dg_shift h0)
      have FIN := Lib.hid fin
      clear fin
      have hcoA := cell_up (.cells #[.int .i64 0] 3) hco
      gi_wp2_with (gi_at_builtin; refine app_cons_in rfl (.tmp 15) (.tmp 16) rfl 0 _ (dg 10000 T) rfl rfl HRO.out hle ?_; intro A1 c1 w1 hr1 hb1; have hco1 := (boxed_below HBO.out hb1).cell; have hfo1 := (boxed_below HBO.out hb1).frozen)
      have hb1o := boxed_below HBO.out hb1
      have hb1v := boxed_below HBV.out hb1
      rw [← HS.out] at hr1
      have hr2 := hr1.set_box hb1o (.slice A1 ((dg 10000 T).length + 1) c1)
      have hb2o := hb1o.set (.slice A1 ((dg 10000 T).length + 1) c1)
      have hb2v := hb1v.other (show w.heap.size ≠ w.heap.size + 1 by omega) (.slice A1 ((dg 10000 T).length + 1) c1)
      have ht2 : Turn [w.heap.size + 1] W (w1.setCell ⟨w.heap.size + 1, 0, none⟩ (.slice A1 ((dg 10000 T).length + 1) c1)) := (Turn.of_below hb1).trans (Turn.setCell _ _ _ _ (by simp))
      have hbW2 := ht2.below hbW (Nat.le_refl _) (fun k hk => by rw [List.mem_singleton] at hk; omega)
      generalize w1.setCell ⟨w.heap.size + 1, 0, none⟩ (.slice A1 ((dg 10000 T).length + 1) c1) = W1 at *
      have FIN2 := Lib.hid (FIN.out W1 A1 _ c1 hb2o hb2v ht2)
      have hcoN := hb2o.cell
      have hfoN := hb2o.frozen
      have hcvN := hb2v.cell
      have HBO2 := Lib.hid hb2o
      have HR2 := Lib.hid hr2
      clear hco1 hfo1 hb1o hb1v hb2o hb2v hr1 hr2 hb1 ht2 FIN hco hfo hcv
      gi_region_with_o (first
        | (refine ⟨trivial, ?_⟩; gi_at_call 64; (with_reducible refine (CallsIn.inRound l (callsIn_wide.2 (by_any a q _ W1.drew (HV.out.below hbW2.drew) ha hq))).mono ?_); rintro e w2 ⟨v1, rfl, hr1, hb1⟩; have hbl1 := below_drewL hb1; have hco1 := (hbl1.cell (cell_lt hcoN)).trans hcoN)
        | (refine ⟨trivial, ?_⟩; gi_at_call 43; (with_reducible refine (CallsIn.inRound l (callsIn_wide.2 (plus_any (T * 10000) (a * q) _ _ w2 (HR2.out.below hbl1) hr1 htb))).mono ?_); rintro e w3 ⟨v2, rfl, hr3, hb2⟩; obtain ⟨A2, c2, rfl, _⟩ := id hr3; have hbl2 := below_up hbl1 hb2; have hco2 := (boxed_below HBO2.out hbl2).cell; have hfo2 := (boxed_below HBO2.out hbl2).frozen))
      all_goals exact FIN2.out w3 A2 _ c2 hbl2 hr3
  case done =>
    rintro D W hD ⟨vo, hbo, hro, hbv⟩ hbW htW hK
    rw [tm_all] at hro
    have hco := hbo.cell
    have HRO := Lib.hid hro
    obtain ⟨A0, c0, rfl, _, _, _⟩ := hro
    clear hbo hbv
    gi_wp2
    refine ⟨by simp, .inl ⟨_, _, rfl, run_takeDeferred hK, ?_⟩⟩
    exact ⟨_, results_tmp rfl _ _ _, .slice A0 (dg 10000 (a * b)).length c0, rfl, rd_mark hK HRO.out, below_mark hbW (Nat.le_refl _) (by omega)⟩
  case stop =>
    rintro D cd pre W hD hSp h hbW hK
    exact h.elim

end Go.Proofs.YtcpkejpdpohfeaaGreatDoor
