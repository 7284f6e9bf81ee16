/- The walk of package integer's 'compare' of groups of digits. Conditions: sizes. The walk of package integer's 'times' of groups of digits. Conditions: sizes. The walk of sort.Search at a closure that makes memory, and of the closure of package integer's 'over'. Conditions: sizes. The walk of package integer's 'over': the long division of groups of digits. Conditions: sizes. A law of the walk: a call through a function value that lies in a slot. Conditions: none. -/
import Derived.Test.YtffndcjmabjhiaaGreatDoorI4
import Derived.Test.YtffndcjmabjhiaaGreatDoorShelf
import Derived.Deep.RegionWith
import Derived.Test.YtffndcjmabjhiaaGreatDoorK1
namespace Go.Proofs.YtffndcjmabjhiaaGreatDoor
open Go.RowKit Num
open Go.Shelf
attribute [local go_sem] Oper.semAt_some

set_option maxHeartbeats 400000 in
theorem backward_any (v : Value) (xs : List Int) (w : World) (hR : Rd w v xs) :
    Calls Tryz.prog 240 #[v] w fun e w' => e = .returned (.func (.func 300) #[] #[.pointer (some ⟨w.heap.size, 0, none⟩)]) ∧ w' = w.alloc (.cells #[v] 213) := by
  obtain ⟨A, c, rfl, _⟩ := hR
  go_enter Tryz.func240, Tryz.ntmps240
  go_wp2
  go_ret
  exact ⟨rfl, rfl⟩

theorem cmp_len {a b : Nat} (h : (dg 10000 a).length ≠ (dg 10000 b).length) : Lib.compareInt ((dg 10000 a).length : Nat) ((dg 10000 b).length : Nat) = Lib.compareInt a b := by
  rcases Nat.lt_or_ge (dg 10000 a).length (dg 10000 b).length with h1 | h1
  · have := lt_of_len (by omega) h1
    unfold Lib.compareInt
    rw [if_pos (by omega), if_pos (by omega)]
  · have := lt_of_len (B := 10000) (by omega) (show (dg 10000 b).length < (dg 10000 a).length by omega)
    unfold Lib.compareInt
    rw [if_neg (by omega), if_pos (by omega), if_neg (by omega), if_pos (by omega)]

set_option maxHeartbeats 400000 in
theorem compare_len (a b : Nat) (v u : Value) (w : World) (hv : Rd w v (dg 10000 a)) (hu : Rd w u (dg 10000 b)) (hne : (dg 10000 a).length ≠ (dg 10000 b).length) :
    Calls Tryz.prog 166 #[v, u] w fun e w' => e = .returned (.int .i64 (Lib.compareInt a b)) ∧ Below w.heap.size w w' := by
  rw [← cmp_len hne]
  obtain ⟨A, c, rfl, _, _, _⟩ := hv
  obtain ⟨A', c', rfl, _, _, _⟩ := hu
  generalize (dg 10000 a).length = la at *
  generalize (dg 10000 b).length = lb at *
  have h1 : ((la : Int) == (lb : Int)) = false := by simp; omega
  have h2 : ((la : Int) != (lb : Int)) = true := by simp; omega
  clear hne
  go_enter Tryz.func166, Tryz.ntmps166
  go_wp2_with (go_at_call 250; refine (Tryz.cmp_Compare_int _ _ _).mono ?_; rintro e w' ⟨rfl, rfl⟩)
  exact bodyPost_ret (v := .int .i64 (Lib.compareInt la lb)) (by simp [results, Tryz.results166, go_sem]) rfl ⟨rfl, below2 _ _ _⟩

theorem mem_down {n : Nat} {q : Fin n} : ∀ {k : Nat}, k ≤ n → (q ∈ down n k ↔ n - k ≤ q.1)
  | 0, _ => by simp [down]
  | k + 1, h => by
    rw [down_succ (by omega), List.mem_append, mem_down (by omega), List.mem_singleton]
    constructor
    · rintro (h1 | rfl)
      · omega
      · show n - (k + 1) ≤ n - 1 - k; omega
    · intro h1
      by_cases h2 : n - k ≤ q.1
      · exact .inl h2
      · right; exact Fin.ext (by show q.1 = n - 1 - k; omega)

theorem snoc_down {n k : Nat} {pre : List (Fin n)} {p : Fin n} (hk : k ≤ n) (h : pre ++ [p] = down n k) : ∃ j, j < n ∧ p.1 = n - 1 - j ∧ pre = down n j := by
  cases k with
  | zero => have := congrArg List.length h; simp [down] at this
  | succ k =>
    rw [down_succ (by omega)] at h
    have h1 := List.append_inj' h rfl
    have h2 : p = ⟨n - 1 - k, by omega⟩ := by simpa using h1.2
    exact ⟨k, by omega, by rw [h2], h1.1⟩

/-- The first place from above at which two lists of one length part decides. -/
theorem cmp_at {a b k : Nat} (hl : (dg 10000 a).length = (dg 10000 b).length) (hk : k < (dg 10000 a).length)
    (hup : ∀ q, k < q → (dg 10000 a)[q]?.getD 0 = (dg 10000 b)[q]?.getD 0) (hne : (dg 10000 a)[k]?.getD 0 ≠ (dg 10000 b)[k]?.getD 0) :
    Lib.compareInt ((dg 10000 a)[k]?.getD 0) ((dg 10000 b)[k]?.getD 0) = Lib.compareInt a b := by
  have hd : (dg 10000 a).drop (k + 1) = (dg 10000 b).drop (k + 1) := by
    apply List.ext_getElem?
    intro i
    rw [List.getElem?_drop, List.getElem?_drop]
    have := hup (k + 1 + i) (by omega)
    rcases Nat.lt_or_ge (k + 1 + i) (dg 10000 a).length with h1 | h1
    · rw [List.getElem?_eq_getElem h1, List.getElem?_eq_getElem (by omega)] at this ⊢
      simp only [Option.getD_some] at this
      rw [this]
    · rw [List.getElem?_eq_none h1, List.getElem?_eq_none (by omega)]
  have ea : (dg 10000 a)[k]?.getD 0 = (dg 10000 a)[k] := by rw [List.getElem?_eq_getElem hk]; rfl
  have eb : (dg 10000 b)[k]?.getD 0 = (dg 10000 b)[k] := by rw [List.getElem?_eq_getElem (by omega)]; rfl
  rw [ea, eb] at hne ⊢
  rcases Int.lt_or_le (dg 10000 a)[k] (dg 10000 b)[k] with h1 | h1
  · have := nv_lt_of (dig_dg (by omega) a) (dig_dg (by omega) b) k hk (by omega) hd h1
    rw [nv_dg (by omega), nv_dg (by omega)] at this
    unfold Lib.compareInt
    rw [if_pos h1, if_pos (by omega)]
  · have h2 : (dg 10000 b)[k] < (dg 10000 a)[k] := by omega
    have := nv_lt_of (dig_dg (by omega) b) (dig_dg (by omega) a) k (by omega) hk hd.symm h2
    rw [nv_dg (by omega), nv_dg (by omega)] at this
    unfold Lib.compareInt
    rw [if_neg (by omega), if_pos h2, if_neg (by omega), if_pos (by omega)]

theorem cmp_all {a b : Nat} (hl : (dg 10000 a).length = (dg 10000 b).length) (h : ∀ q, q < (dg 10000 a).length → (dg 10000 a)[q]?.getD 0 = (dg 10000 b)[q]?.getD 0) : Lib.compareInt a b = 0 := by
  have e : dg 10000 a = dg 10000 b := by
    apply List.ext_getElem hl
    intro i h1 h2
    have := h i h1
    rwa [List.getElem?_eq_getElem h1, List.getElem?_eq_getElem h2] at this
  have := nv_inj (by omega) e
  subst this
  unfold Lib.compareInt
  rw [if_neg (by omega), if_neg (by omega)]

set_option maxRecDepth 100000 in
set_option maxHeartbeats 2000000 in
theorem compare_eq (a b : Nat) (v u : Value) (w : World) (hv : Rd w v (dg 10000 a)) (hu : Rd w u (dg 10000 b)) (hl : (dg 10000 a).length = (dg 10000 b).length) :
    Calls Tryz.prog 166 #[v, u] w fun e w' => e = .returned (.int .i64 (Lib.compareInt a b)) ∧ Below w.heap.size w w' := by
  have BK := fun W (h : Rd W v (dg 10000 a)) => backward_any v (dg 10000 a) W h
  have HV := Lib.hid hv
  have HU := Lib.hid hu
  obtain ⟨A, c, rfl, _, _, _⟩ := hv
  obtain ⟨A', c', rfl, _, _, hxu⟩ := hu
  have HXU := Lib.hid hxu
  clear hxu
  have h1 : (((dg 10000 a).length : Int) == ((dg 10000 b).length : Int)) = true := by simp; omega
  have h2 : (((dg 10000 a).length : Int) != ((dg 10000 b).length : Int)) = false := by simp; omega
  have HL := Lib.hid hl
  clear hl
  refine (callsIn_wide (n := 6)).1 ?_
  refine callsIn_of_wp_marks Tryz.func166 rfl trivial ?_ rfl
  simp only [Tryz.ntmps166, List.size_toArray, List.length_cons, List.length_nil, Nat.reduceAdd, Nat.reduceSub, Array.replicate_succ, Array.replicate_zero, List.push_toArray, List.append_toArray, List.nil_append, List.cons_append]
  gi_wp2_with (refine ⟨trivial, ?_⟩; gi_at_call 240; refine (callsIn_wide.2 (BK _ (HV.out.below (below2 _ _ _)))).mono ?_; rintro e w' ⟨rfl, rfl⟩)
  obtain ⟨W0, hW0⟩ : ∃ W0, ((w.alloc (.cells #[.slice A' (dg 10000 b).length c'] 213)).alloc (.cells #[.int .i64 0] 3)).alloc (.cells #[.slice A (dg 10000 a).length c] 213) = W0 := ⟨_, rfl⟩
  have hsz : W0.heap.size = w.heap.size + 3 := by rw [← hW0]; simp
  have hB0 : Below w.heap.size w W0 := by rw [← hW0]; exact (below2 _ _ _).alloc (by simp; omega) _
  have bu : Boxed W0 w.heap.size 213 (.slice A' (dg 10000 b).length c') := by rw [← hW0]; exact ((Boxed.new _ _ _).alloc _).alloc _
  have br : Boxed W0 (w.heap.size + 1) 3 (.int .i64 0) := by
    rw [← hW0]; have := (Boxed.new (w.alloc (.cells #[.slice A' (dg 10000 b).length c'] 213)) 3 (.int .i64 0)).alloc (.cells #[.slice A (dg 10000 a).length c] 213)
    rwa [World.size_alloc] at this
  have bl : W0.cell? ⟨w.heap.size + 1 + 1, 0, none⟩ = some (.slice A (dg 10000 a).length c) := by
    rw [← hW0]; have := cell_new1 ((w.alloc (.cells #[.slice A' (dg 10000 b).length c'] 213)).alloc (.cells #[.int .i64 0] 3)) (.slice A (dg 10000 a).length c) 213
    simpa using this
  rw [hW0]
  clear hW0
  refine range_back (by omega) (Bs := w.heap.size + 1 + 1) (v := .slice A (dg 10000 a).length c) (xs := dg 10000 a) rfl bl (HV.out.below hB0) rfl w hB0 [w.heap.size + 1]
    (fun k hk => by
      rw [List.mem_singleton] at hk; subst hk
      exact ⟨by omega, by omega, by omega, fun e => by have := HV.out.row_lt e; omega⟩)
    (fun pre W => (Boxed W w.heap.size 213 (.slice A' (dg 10000 b).length c') ∧ Boxed W (w.heap.size + 1) 3 (.int .i64 0)) ∧ ∀ p ∈ pre, nth (dg 10000 a) p.1 = nth (dg 10000 b) p.1)
    (fun cd pre W => cd = .ret ∧ ∃ pre' p, pre = pre' ++ [p] ∧ (∀ q ∈ pre', nth (dg 10000 a) q.1 = nth (dg 10000 b) q.1) ∧ nth (dg 10000 a) p.1 ≠ nth (dg 10000 b) p.1 ∧ Boxed W (w.heap.size + 1) 3 (.int .i64 (Lib.compareInt (nth (dg 10000 a) p.1) (nth (dg 10000 b) p.1))))
    (fun s X Y hs _ hk => ⟨⟨boxedCO hk hs.1.1, boxedCO hk hs.1.2⟩, hs.2⟩)
    (fun cd s X Y hs _ hk => by obtain ⟨h1, pre', p, h2, h3, h4, h5⟩ := hs; exact ⟨h1, pre', p, h2, h3, h4, boxedCO hk h5⟩)
    ⟨⟨bu, br⟩, fun p hp => by cases hp⟩
    (fun x => { tmps := #[.slice A (dg 10000 a).length c, .slice A' (dg 10000 b).length c', undef, .pointer (some ⟨w.heap.size, 0, none⟩), .pointer (some ⟨w.heap.size + 1, 0, none⟩), .int .i64 (x.1 : Nat), .int .i64 (nth (dg 10000 a) x.1), .slice A (dg 10000 a).length c, .int .i64 (dg 10000 a).length, .slice A' (dg 10000 b).length c', .int .i64 (dg 10000 b).length, .bool false, undef, undef, undef, undef, undef, .slice A (dg 10000 a).length c, .func (.func 300) #[] #[.pointer (some ⟨w.heap.size + 1 + 1, 0, none⟩)], .int .i64 (x.1 : Nat), .int .i64 (nth (dg 10000 a) x.1), undef, undef, undef, undef, undef, undef, undef, undef, undef, undef, undef, undef], defers := [] }) ?assign ?body ?done ?stop
  case assign =>
    intro l x W K hK
    gi_wp2
    exact hK
  case body =>
    rintro l pre x W ⟨⟨hbu, hbr⟩, hp⟩ hbW htW hlen
    have hxb : x.1 < (dg 10000 b).length := by rw [← HL.out]; exact x.2
    obtain ⟨b', o', rfl, hy⟩ := HXU.out (by omega)
    have hcell : W.cell? ⟨b', o' + x.1, none⟩ = some (.int .i64 (nth (dg 10000 b) x.1)) := (hbW.cell (cell_lt (hy x.1 hxb))).trans (hy x.1 hxb)
    have hx0 : (x.1 : Int) < ((dg 10000 b).length : Int) := by omega
    have hcu := hbu.cell
    have hcr := hbr.cell
    have hfr := hbr.frozen
    have HBU := Lib.hid hbu
    have HBR := Lib.hid hbr
    have HP := Lib.hid hp
    clear hbu hbr hp hy hxb hlen
    by_cases he : nth (dg 10000 a) x.1 = nth (dg 10000 b) x.1
    · have HE := Lib.hid he
      have hb : (nth (dg 10000 a) x.1 != nth (dg 10000 b) x.1) = false := by rw [he]; simp
      clear he
      gi_wp2
      refine ⟨Turn.refl _ _, ⟨HBU.out, HBR.out⟩, fun q hq => ?_⟩
      rcases List.mem_append.1 hq with h | h
      · exact HP.out q h
      · rw [List.mem_singleton] at h; rw [h]; exact HE.out
    · have HE := Lib.hid he
      have hb : (nth (dg 10000 a) x.1 != nth (dg 10000 b) x.1) = true := by simpa using he
      clear he
      gi_wp2_with (refine ⟨trivial, ?_⟩; gi_at_call 250; refine (CallsIn.inRound l (callsIn_wide.2 (Tryz.cmp_Compare_int _ _ _))).mono ?_; rintro e w' ⟨rfl, rfl⟩)
      exact ⟨Turn.setCell _ _ _ _ (by simp), rfl, pre, x, rfl, HP.out, HE.out, HBR.out.set _⟩
  case done =>
    rintro D W hD ⟨⟨hbu, hbr⟩, hp⟩ hbW htW hK
    have hcr := hbr.cell
    have hfr := hbr.frozen
    have e0 : Hid (Lib.compareInt a b = 0) := cmp_all HL.out (fun q hq => hp ⟨q, hq⟩ ((mem_down (Nat.le_refl _)).2 (by omega)))
    have HBR := Lib.hid hbr
    clear hbu hbr hp
    gi_wp2
    have hK' := mark_set hK ⟨w.heap.size + 1, 0, none⟩ (.int .i64 0)
    refine ⟨by simp, .inl ⟨_, _, rfl, run_takeDeferred hK', ?_⟩⟩
    have hc5 := cell_mark hK' (HBR.out.set (.int .i64 0)).cell
    refine ⟨.int .i64 0, by simp [results, Tryz.f166, go_sem, hc5], by rw [e0.out], ?_⟩
    exact below_mark (hbW.setCell (p := ⟨w.heap.size + 1, 0, none⟩) (by simp) _) (Nat.le_refl _) (by omega)
  case stop =>
    rintro D cd pre W hD ⟨k, hk, hSp⟩ ⟨rfl, pre', p, hpre, hp, hne, hbr⟩ hbW hK
    obtain ⟨j, hj, hpj, rfl⟩ := snoc_down hk (hpre.symm.trans hSp)
    have e0 := cmp_at HL.out p.2 (fun q hq => by
      rcases Nat.lt_or_ge q (dg 10000 a).length with h | h
      · exact hp ⟨q, h⟩ ((mem_down (by omega)).2 (by show _ ≤ q; omega))
      · have := HL.out; rw [dgout h, dgout (by omega)]) hne
    have E0 := Lib.hid e0
    have hcr := hbr.cell
    have HBR := Lib.hid hbr
    clear e0 hbr hp hne hpre hSp
    gi_wp2
    refine ⟨by simp, .inl ⟨_, _, rfl, run_takeDeferred hK, ?_⟩⟩
    have hc5 := cell_mark hK HBR.out.cell
    refine ⟨.int .i64 (Lib.compareInt (nth (dg 10000 a) p.1) (nth (dg 10000 b) p.1)), by simp [results, Tryz.f166, go_sem, hc5], by rw [← E0.out]; rfl, ?_⟩
    exact below_mark hbW (Nat.le_refl _) (by omega)

theorem compare_any (a b : Nat) (v u : Value) (w : World) (hv : Rd w v (dg 10000 a)) (hu : Rd w u (dg 10000 b)) :
    Calls Tryz.prog 166 #[v, u] w fun e w' => e = .returned (.int .i64 (Lib.compareInt a b)) ∧ Below w.heap.size w w' := by
  by_cases h : (dg 10000 a).length = (dg 10000 b).length
  · exact compare_eq a b v u w hv hu h
  · exact compare_len a b v u w hv hu h

end Go.Proofs.YtffndcjmabjhiaaGreatDoor

namespace Go.Proofs.YtffndcjmabjhiaaGreatDoor
open Go.RowKit Num
open Go.Shelf
attribute [local go_sem] Oper.semAt_some

theorem addr_add (b o j : Nat) : (⟨b, o, none⟩ : Addr).add j = ⟨b, o + j, none⟩ := by unfold Addr.add; split <;> simp_all

/-- 'append(number{r}, xs...)' within a fence: the literal lies in a new block. -/
theorem app_cons_own {F : Fence} {n : Nat} {W : World} {ops : Array Oper} {rest : List Oper} {o : Oper} {a : Act} {Q : Exit → Act → World → Prop} (hgd : o.guard = none) (s x : Operand)
    (ho : o.op = .call { callee := .builtin .append, args := #[s, x], argTypes := #[213, 213] }) (r : Int) (v : Value) (ys : List Int)
    (hs : a.eval s = .slice (some ⟨W.heap.size, 0, none⟩) 1 1) (hx : a.eval x = v) (hv : Rd W v ys) (hl : ys.length ≤ 900000)
    (h : ∀ A c w', Rd w' (.slice A (ys.length + 1) c) (r :: ys) → Below W.heap.size W w' → (∀ k, (Value.slice A (ys.length + 1) c).ownBlock = some k → W.heap.size ≤ k) → wpListIn F n Tryz.prog ops Q rest (a.put o.dst (.slice A (ys.length + 1) c)) w') :
    wpListIn F n Tryz.prog ops Q (o :: rest) a (W.alloc (.cells #[.int .i64 r] 3)) := by
  obtain ⟨i0, hi, hz0, hz1, hz2⟩ := info_parts Tryz.info3
  have hown : (W.alloc (.cells #[.int .i64 r] 3)).ownsRow W.heap.size 3 1 (.slice (some ⟨W.heap.size, 0, none⟩) 1 1) 1 [.int .i64 r] :=
    World.ownsRow_lit W #[.int .i64 r] 1 (Nat.le_refl _) (by unfold maxLen; omega) rfl
  have fin : ∀ v' w', w'.ownsRow W.heap.size 3 1 v' (r :: ys).length ((r :: ys).map (Value.int .i64)) → Below W.heap.size W w' → wpListIn F n Tryz.prog ops Q rest (a.put o.dst v') w' := by
    intro v' w' h1 h2
    have h3 := Rd.own h1 (by simp; omega)
    obtain ⟨A, c, rfl, _⟩ := id h3
    exact h A c w' h3 h2 (fun k hk => (h1.lt k hk).1)
  obtain ⟨A, c, rfl, hc, hm, hy⟩ := hv
  cases A with
  | none =>
    obtain rfl := hc.2 rfl
    have hn : ys = [] := by
      rcases Nat.eq_zero_or_pos ys.length with h0 | h0
      · exact List.eq_nil_of_length_eq_zero h0
      · obtain ⟨b, o, h1, _⟩ := hy h0; cases h1
    subst hn
    refine wpListIn_plain hgd fun K hK' => ?_
    have hrun := run_append_owned_none (P := Tryz.prog) (w := W.alloc (.cells #[.int .i64 r] 3)) W.heap.size 213 o.type 3 i0 1 Tryz.underlying213 hi _ 1 _ hown
    unfold Oper.wpIn
    refine ⟨?_, ?_⟩
    · simp [Oper.about, ho, resolve, Target.leads, Sem.run_pure]
    · rw [Oper.semAt_plain F _ _ (by rw [ho]; intro c hc'; cases hc')]
      simp [execOp, ho, resolve, invoke, builtin, hs, hx, hrun, Result.andThen]
      exact hK' _ _ (fin _ _ hown (below1 _ _))
  | some ad =>
    refine wpListIn_append_own _ hgd s x 213 ho W.heap.size 3 i0 (.int .i64 0) 1 8 Tryz.underlying213 hi hz0 hz1 hz2 rfl (by decide) _ 1 [.int .i64 r] hs hown ad ys.length c (ys.map (Value.int .i64)) hx (by simp) ?_ ?_ ?_ ?_ ?_ ?_
    · intro j u hj
      rw [List.getElem?_map] at hj
      cases hq : ys[j]? with
      | none => rw [hq] at hj; cases hj
      | some z =>
        rw [hq] at hj
        have hjl : j < ys.length := (List.getElem?_eq_some_iff.1 hq).1
        obtain ⟨b, o, h1, h2⟩ := hy (by omega)
        cases h1
        have h3 := cell_up (.cells #[.int .i64 r] 3) (h2 j hjl)
        rw [hq] at h3
        simp only [Option.map_some, Option.some.injEq] at hj
        subst hj
        rw [addr_add]
        simpa using h3
    · intro u hu
      obtain ⟨z, _, rfl⟩ := List.mem_map.1 hu
      rfl
    · unfold maxLen; omega
    · omega
    · simp
    · intro v' w' hown' hg _
      refine fin v' w' (by rw [List.length_cons, Nat.add_comm]; exact hown') ?_
      exact (below1 _ _).grown hg (by simp) (fun k hk => by cases hk; exact Nat.le_refl _)

theorem app_cons_in {F : Fence} {n : Nat} {W : World} {ops : Array Oper} {rest : List Oper} {o : Oper} {a : Act} {Q : Exit → Act → World → Prop} (hgd : o.guard = none) (s x : Operand)
    (ho : o.op = .call { callee := .builtin .append, args := #[s, x], argTypes := #[213, 213] }) (r : Int) (v : Value) (ys : List Int)
    (hs : a.eval s = .slice (some ⟨W.heap.size, 0, none⟩) 1 1) (hx : a.eval x = v) (hv : Rd W v ys) (hl : ys.length ≤ 900000)
    (h : ∀ A c w', Rd w' (.slice A (ys.length + 1) c) (r :: ys) → Below W.heap.size W w' → wpListIn F n Tryz.prog ops Q rest (a.put o.dst (.slice A (ys.length + 1) c)) w') :
    wpListIn F n Tryz.prog ops Q (o :: rest) a (W.alloc (.cells #[.int .i64 r] 3)) :=
  app_cons_own hgd s x ho r v ys hs hx hv hl fun A c w' h1 h2 _ => h A c w' h1 h2

/-- A store into a box that holds a slice leaves the numbers of another slice as they are. -/
theorem Rd.set_box {W : World} {B : Nat} {t : TypeId} {A0 : Option Addr} {n0 c0 : Nat} (hb : Boxed W B t (.slice A0 n0 c0)) {v : Value} {xs : List Int} (hr : Rd W v xs) (u : Value) : Rd (W.setCell ⟨B, 0, none⟩ u) v xs := by
  obtain ⟨A, c, rfl, hc, hm, hx⟩ := hr
  refine ⟨A, c, rfl, hc, hm, fun h0 => ?_⟩
  obtain ⟨b, o, rfl, hy⟩ := hx h0
  refine ⟨b, o, rfl, fun j hj => ?_⟩
  refine (World.cell?_of_block (w := W) (a := ⟨b, o + j, none⟩) (Below.heap_setCell _ _ _ _ (fun e => ?_))).trans (hy j hj)
  have h1 := hy j hj
  have e' : b = B := e
  rw [e'] at h1
  have h2 : W.heap[B]? = some (.cells #[.slice A0 n0 c0] t (0, 0)) := hb
  simp only [World.cell?, h2] at h1
  cases hj' : o + j with
  | zero => rw [hj'] at h1; simp at h1
  | succ k => rw [hj'] at h1; simp at h1
theorem below_drewL {W w1 : World} (h : Below W.drew.heap.size W.drew w1) : Below W.heap.size W w1 := ⟨h.os, h.tape, h.output, h.size, h.block⟩
theorem boxed_below {W W' : World} {B : Nat} {t : TypeId} {v : Value} (h : Boxed W B t v) (hb : Below W.heap.size W W') : Boxed W' B t v := (hb.block B h.lt).trans h

/-! ### What the rounds come to -/
def dgn (b i : Nat) : Nat := (nth (dg 10000 b) i).toNat
theorem dgn_eq (b i : Nat) : nth (dg 10000 b) i = (dgn b i : Int) := by have := dgat b i; unfold dgn nth; omega
theorem dgn_le (b i : Nat) : dgn b i ≤ 9999 := by have := dgat b i; unfold dgn nth; omega
/-- The product of a with the digits that have come, the highest first. -/
def tm (a b : Nat) (pre : List (Fin (dg 10000 b).length)) : Nat := pre.foldl (fun t x => t * 10000 + a * dgn b x.1) 0
theorem tm_snoc (a b : Nat) (pre : List (Fin (dg 10000 b).length)) (x : Fin (dg 10000 b).length) : tm a b (pre ++ [x]) = tm a b pre * 10000 + a * dgn b x.1 := by unfold tm; rw [List.foldl_append]; rfl
theorem tm_rec (a b : Nat) : ∀ (pre : List (Fin (dg 10000 b).length)) (t : Nat), t + a ≤ a * 10000 ^ (0 + 0) ∨ True → pre.foldl (fun t x => t * 10000 + a * dgn b x.1) t + a ≤ (t + a) * 10000 ^ pre.length
  | [], t, _ => by simp
  | x :: pre, t, _ => by
    rw [List.foldl_cons]
    have ih := tm_rec a b pre (t * 10000 + a * dgn b x.1) (.inr trivial)
    refine Nat.le_trans ih ?_
    rw [List.length_cons, Nat.pow_succ, Nat.mul_comm (10000 ^ pre.length), ← Nat.mul_assoc]
    refine Nat.mul_le_mul_right _ ?_
    have := Nat.mul_le_mul_left a (dgn_le b x.1)
    omega
theorem tm_le (a b : Nat) (pre : List (Fin (dg 10000 b).length)) : tm a b pre + a ≤ a * 10000 ^ pre.length := by
  have := tm_rec a b pre 0 (.inr trivial)
  rw [Nat.zero_add] at this
  exact this
theorem tm_down (a b : Nat) : ∀ k, k ≤ (dg 10000 b).length → ((tm a b (down (dg 10000 b).length k) : Nat) : Int) = a * nv 10000 ((dg 10000 b).drop ((dg 10000 b).length - k))
  | 0, _ => by rw [Nat.sub_zero, List.drop_of_length_le (Nat.le_refl _)]; simp [tm, down, nv]
  | k + 1, h => by
    rw [down_succ (by omega), tm_snoc, Int.natCast_add, Int.natCast_mul, Int.natCast_mul, tm_down a b k (by omega), ← dgn_eq]
    have e : (dg 10000 b).drop ((dg 10000 b).length - (k + 1)) = nth (dg 10000 b) ((dg 10000 b).length - 1 - k) :: (dg 10000 b).drop ((dg 10000 b).length - k) := by
      rw [List.drop_eq_getElem_cons (by omega)]
      congr 1
      · unfold nth
        rw [List.getElem?_eq_getElem (by omega)]
        simp only [Option.getD_some]
        congr 1
        omega
      · congr 1; omega
    rw [e, nv]
    generalize nv 10000 ((dg 10000 b).drop ((dg 10000 b).length - k)) = N
    show (a : Int) * N * ((10000 : Nat) : Int) + (a : Int) * nth (dg 10000 b) ((dg 10000 b).length - 1 - k) = _
    rw [Int.mul_add, Int.mul_comm ((10000 : Nat) : Int) N, ← Int.mul_assoc, Int.add_comm]
theorem tm_all (a b : Nat) : tm a b (down (dg 10000 b).length (dg 10000 b).length) = a * b := by
  have := tm_down a b _ (Nat.le_refl _)
  rw [Nat.sub_self, List.drop_zero, nv_dg (by omega), ← Int.natCast_mul] at this
  omega
theorem dg_shift {t : Nat} (h : 0 < t) : dg 10000 (t * 10000) = 0 :: dg 10000 t := by
  rw [dg_pos (by omega) (by omega), Nat.mul_mod_left, Nat.mul_div_cancel _ (by omega)]; rfl

set_option maxRecDepth 100000 in
set_option maxHeartbeats 1000000 in
theorem times_any (a b : Nat) (v u : Value) (w : World) (hv : Rd w v (dg 10000 a)) (hu : Rd w u (dg 10000 b)) (hs : a * 10000 ^ (dg 10000 b).length < big) :
    Calls Tryz.prog 304 #[v, u] w (RetN w (a * b)) := by
  have BK := fun W (h : Rd W u (dg 10000 b)) => backward_any u (dg 10000 b) W h
  have HV := Lib.hid hv
  have HU := Lib.hid hu
  obtain ⟨A, c, rfl, _, _, _⟩ := hv
  obtain ⟨A', c', rfl, _, _, _⟩ := hu
  refine (callsIn_wide (n := 6)).1 ?_
  refine callsIn_of_wp_marks Tryz.func304 rfl trivial ?_ rfl
  simp only [Tryz.ntmps304, List.size_toArray, List.length_cons, List.length_nil, Nat.reduceAdd, Nat.reduceSub, Array.replicate_succ, Array.replicate_zero, List.push_toArray, List.append_toArray, List.nil_append, List.cons_append]
  gi_wp2_with (refine ⟨trivial, ?_⟩; gi_at_call 240; refine (callsIn_wide.2 (BK _ (HU.out.below (below2 _ _ _)))).mono ?_; rintro e w' ⟨rfl, rfl⟩)
  obtain ⟨W0, hW0⟩ : ∃ W0, ((w.alloc (.cells #[.slice A (dg 10000 a).length c] 213)).alloc (.cells #[.slice none 0 0] 213)).alloc (.cells #[.slice A' (dg 10000 b).length c'] 213) = W0 := ⟨_, rfl⟩
  have hsz : W0.heap.size = w.heap.size + 3 := by rw [← hW0]; simp
  have hB0 : Below w.heap.size w W0 := by rw [← hW0]; exact (below2 _ _ _).alloc (by simp; omega) _
  have bv : Boxed W0 w.heap.size 213 (.slice A (dg 10000 a).length c) := by rw [← hW0]; exact ((Boxed.new _ _ _).alloc _).alloc _
  have bo : Boxed W0 (w.heap.size + 1) 213 (.slice none 0 0) := by
    rw [← hW0]; have := (Boxed.new (w.alloc (.cells #[.slice A (dg 10000 a).length c] 213)) 213 (.slice none 0 0)).alloc (.cells #[.slice A' (dg 10000 b).length c'] 213)
    rwa [World.size_alloc] at this
  have bl : W0.cell? ⟨w.heap.size + 1 + 1, 0, none⟩ = some (.slice A' (dg 10000 b).length c') := by
    rw [← hW0]; have := cell_new1 ((w.alloc (.cells #[.slice A (dg 10000 a).length c] 213)).alloc (.cells #[.slice none 0 0] 213)) (.slice A' (dg 10000 b).length c') 213
    simpa using this
  rw [hW0]
  clear hW0
  refine range_back (by omega) (Bs := w.heap.size + 1 + 1) (v := .slice A' (dg 10000 b).length c') (xs := dg 10000 b) rfl bl (HU.out.below hB0) rfl w hB0 [w.heap.size + 1]
    (fun k hk => by
      rw [List.mem_singleton] at hk; subst hk
      exact ⟨by omega, by omega, by omega, fun e => by have := HU.out.row_lt e; omega⟩)
    (fun pre W => ∃ vo, Boxed W (w.heap.size + 1) 213 vo ∧ Rd W vo (dg 10000 (tm a b pre)) ∧ Boxed W w.heap.size 213 (.slice A (dg 10000 a).length c))
    (fun _ _ _ => False)
    (fun s X Y hs _ hk => by obtain ⟨vo, h1, h2, h3⟩ := hs; exact ⟨vo, boxedCO hk h1, h2.cellsOnly hk, boxedCO hk h3⟩)
    (fun _ _ _ _ hs _ _ => hs)
    ⟨_, bo, by rw [show tm a b [] = 0 from rfl, dg_zero]; exact Rd.nil _, bv⟩
    (fun x => { tmps := #[.slice A (dg 10000 a).length c, .slice A' (dg 10000 b).length c', .pointer (some ⟨w.heap.size, 0, none⟩), undef, .slice none 0 0, .pointer (some ⟨w.heap.size + 1, 0, none⟩), undef, .int .i64 (nth (dg 10000 b) x.1), .slice A' (dg 10000 b).length c', .func (.func 300) #[] #[.pointer (some ⟨w.heap.size + 1 + 1, 0, none⟩)], .int .i64 (x.1 : Nat), .int .i64 (nth (dg 10000 b) x.1), undef, undef, undef, undef, undef, undef, undef, undef, undef, undef, undef, undef], defers := [] }) ?assign ?body ?done ?stop
  case assign =>
    intro l x W K hK
    gi_wp2
    exact hK
  case body =>
    rintro l pre x W ⟨vo, hbo, hro, hbv⟩ hbW htW hlen
    have hbd := tm_le a b pre
    have hpw : a * 10000 ^ pre.length * 10000 ≤ a * 10000 ^ (dg 10000 b).length := by
      rw [Nat.mul_assoc, ← Nat.pow_succ]; exact Nat.mul_le_mul_left _ (Nat.pow_le_pow_right (by omega) (by omega))
    have hdl := Nat.mul_le_mul_left a (dgn_le b x.1)
    have htb : tm a b pre * 10000 + a * dgn b x.1 < big := by omega
    have hTs := Lib.hid (tm_snoc a b pre x)
    have hq := dgn_le b x.1
    rw [dgn_eq]
    have ha : a < big := by
      rcases Nat.eq_zero_or_pos a with h | h
      · rw [h]; unfold big; exact Nat.pow_pos (by omega)
      · omega
    generalize tm a b pre = T at *
    generalize dgn b x.1 = q at *
    clear hbd hpw hdl hlen hs
    have hco := hbo.cell
    have hfo := hbo.frozen
    have hcv := hbv.cell
    have HBO := Lib.hid hbo
    have HBV := Lib.hid hbv
    have HRO := Lib.hid hro
    obtain ⟨A0, c0, rfl, _, _, _⟩ := hro
    clear hbo hbv
    have hmixed : Tryz.prog.follows .mixedOrders = true := by kernel_rfl
    have fin : ∀ (W1 : World) (A1 : Option Addr) (n1 c1 : Nat), Boxed W1 (w.heap.size + 1) 213 (.slice A1 n1 c1) → Boxed W1 w.heap.size 213 (.slice A (dg 10000 a).length c) → Turn [w.heap.size + 1] W W1 →
        ∀ (w2 : World) (A2 : Option Addr) (n2 c2 : Nat), Below W1.heap.size W1 w2 → Rd w2 (.slice A2 n2 c2) (dg 10000 (T * 10000 + a * q)) →
        Turn [w.heap.size + 1] W (w2.setCell ⟨w.heap.size + 1, 0, none⟩ (.slice A2 n2 c2)) ∧ ∃ vo, Boxed (w2.setCell ⟨w.heap.size + 1, 0, none⟩ (.slice A2 n2 c2)) (w.heap.size + 1) 213 vo ∧
          Rd (w2.setCell ⟨w.heap.size + 1, 0, none⟩ (.slice A2 n2 c2)) vo (dg 10000 (tm a b (pre ++ [x]))) ∧ Boxed (w2.setCell ⟨w.heap.size + 1, 0, none⟩ (.slice A2 n2 c2)) w.heap.size 213 (.slice A (dg 10000 a).length c) := by
      intro W1 A1 n1 c1 b1 b2 ht w2 A2 n2 c2 hb hr
      refine ⟨(ht.trans (Turn.of_below hb)).trans (Turn.setCell _ _ _ _ (by simp)), _, (boxed_below b1 hb).set _, ?_, (boxed_below b2 hb).other (by omega) _⟩
      rw [hTs.out]
      exact hr.set_box (boxed_below b1 hb) _
    rcases Nat.eq_zero_or_pos T with h0 | h0
    · have e0 : dg 10000 T = [] := by rw [h0, dg_zero]
      have e1 : dg 10000 (T * 10000) = [] := by rw [h0, Nat.zero_mul, dg_zero]
      have FIN := Lib.hid (fin W A0 (dg 10000 T).length c0 HBO.out HBV.out (Turn.refl _ _))
      clear fin
      rw [e0] at hco HBO HRO
      simp only [List.length_nil] at hco HBO HRO
      rw [← e1] at HRO
      clear e0 e1 h0
      gi_wp2
      gi_region_with_o (first
        | (refine ⟨trivial, ?_⟩; gi_at_call 242; (with_reducible refine (CallsIn.inRound l (callsIn_wide.2 (by_any a q _ W.drew (HV.out.below hbW.drew) ha hq))).mono ?_); rintro e w1 ⟨v1, rfl, hr1, hb1⟩; have hbl1 := below_drewL hb1; have hco1 := (hbl1.cell (cell_lt hco)).trans hco)
        | (refine ⟨trivial, ?_⟩; gi_at_call 162; (with_reducible refine (CallsIn.inRound l (callsIn_wide.2 (plus_any (T * 10000) (a * q) _ _ w1 (HRO.out.below hbl1) hr1 htb))).mono ?_); rintro e w2 ⟨v2, rfl, hr2, hb2⟩; obtain ⟨A2, c2, rfl, _⟩ := id hr2; have hbl2 := below_up hbl1 hb2; have hco2 := (boxed_below HBO.out hbl2).cell; have hfo2 := (boxed_below HBO.out hbl2).frozen))
      all_goals exact FIN.out w2 A2 _ c2 hbl2 hr2
    · have hlt : (0 : Int) < ((dg 10000 T).length : Int) := by
        have : dg 10000 T ≠ [] := fun e => by rw [dg_eq_nil (by omega)] at e; omega
        have := List.length_pos_iff.2 this
        omega
      have hle : (dg 10000 T).length ≤ 900000 := by have := dg_big (show T < big by omega); omega
      have HS := Lib.hid (dg_shift h0)
      have FIN := Lib.hid fin
      clear fin
      have hcoA := cell_up (.cells #[.int .i64 0] 3) hco
      gi_wp2_with (gi_at_builtin; refine app_cons_in rfl (.tmp 15) (.tmp 16) rfl 0 _ (dg 10000 T) rfl rfl HRO.out hle ?_; intro A1 c1 w1 hr1 hb1; have hco1 := (boxed_below HBO.out hb1).cell; have hfo1 := (boxed_below HBO.out hb1).frozen)
      have hb1o := boxed_below HBO.out hb1
      have hb1v := boxed_below HBV.out hb1
      rw [← HS.out] at hr1
      have hr2 := hr1.set_box hb1o (.slice A1 ((dg 10000 T).length + 1) c1)
      have hb2o := hb1o.set (.slice A1 ((dg 10000 T).length + 1) c1)
      have hb2v := hb1v.other (show w.heap.size ≠ w.heap.size + 1 by omega) (.slice A1 ((dg 10000 T).length + 1) c1)
      have ht2 : Turn [w.heap.size + 1] W (w1.setCell ⟨w.heap.size + 1, 0, none⟩ (.slice A1 ((dg 10000 T).length + 1) c1)) := (Turn.of_below hb1).trans (Turn.setCell _ _ _ _ (by simp))
      have hbW2 := ht2.below hbW (Nat.le_refl _) (fun k hk => by rw [List.mem_singleton] at hk; omega)
      generalize w1.setCell ⟨w.heap.size + 1, 0, none⟩ (.slice A1 ((dg 10000 T).length + 1) c1) = W1 at *
      have FIN2 := Lib.hid (FIN.out W1 A1 _ c1 hb2o hb2v ht2)
      have hcoN := hb2o.cell
      have hfoN := hb2o.frozen
      have hcvN := hb2v.cell
      have HBO2 := Lib.hid hb2o
      have HR2 := Lib.hid hr2
      clear hco1 hfo1 hb1o hb1v hb2o hb2v hr1 hr2 hb1 ht2 FIN hco hfo hcv
      gi_region_with_o (first
        | (refine ⟨trivial, ?_⟩; gi_at_call 242; (with_reducible refine (CallsIn.inRound l (callsIn_wide.2 (by_any a q _ W1.drew (HV.out.below hbW2.drew) ha hq))).mono ?_); rintro e w2 ⟨v1, rfl, hr1, hb1⟩; have hbl1 := below_drewL hb1; have hco1 := (hbl1.cell (cell_lt hcoN)).trans hcoN)
        | (refine ⟨trivial, ?_⟩; gi_at_call 162; (with_reducible refine (CallsIn.inRound l (callsIn_wide.2 (plus_any (T * 10000) (a * q) _ _ w2 (HR2.out.below hbl1) hr1 htb))).mono ?_); rintro e w3 ⟨v2, rfl, hr3, hb2⟩; obtain ⟨A2, c2, rfl, _⟩ := id hr3; have hbl2 := below_up hbl1 hb2; have hco2 := (boxed_below HBO2.out hbl2).cell; have hfo2 := (boxed_below HBO2.out hbl2).frozen))
      all_goals exact FIN2.out w3 A2 _ c2 hbl2 hr3
  case done =>
    rintro D W hD ⟨vo, hbo, hro, hbv⟩ hbW htW hK
    rw [tm_all] at hro
    have hco := hbo.cell
    have HRO := Lib.hid hro
    obtain ⟨A0, c0, rfl, _, _, _⟩ := hro
    clear hbo hbv
    gi_wp2
    refine ⟨by simp, .inl ⟨_, _, rfl, run_takeDeferred hK, ?_⟩⟩
    exact ⟨_, results_tmp rfl _ _ _, .slice A0 (dg 10000 (a * b)).length c0, rfl, rd_mark hK HRO.out, below_mark hbW (Nat.le_refl _) (by omega)⟩
  case stop =>
    rintro D cd pre W hD hSp h hbW hK
    exact h.elim

end Go.Proofs.YtffndcjmabjhiaaGreatDoor

namespace Go.Proofs.YtffndcjmabjhiaaGreatDoor
open Go.RowKit Num
open Go.Shelf

theorem countP_edge (p : Nat → Bool) (n k : Nat) (hk : k ≤ n) (h1 : ∀ t, t < k → p t = false) (h2 : ∀ t, k ≤ t → t < n → p t = true) : (List.range n).countP (fun i => !p i) = k := by
  induction n with
  | zero => simp; omega
  | succ n ih =>
    rw [List.range_succ, List.countP_append]
    rcases Nat.lt_or_ge n k with h | h
    · obtain rfl : k = n + 1 := by omega
      have e : (List.range n).countP (fun i => !p i) = n := by
        have : (List.range n).countP (fun i => !p i) = (List.range n).length := List.countP_eq_length.2 (fun t ht => by rw [h1 t (by have := List.mem_range.1 ht; omega)]; rfl)
        simpa using this
      rw [e]
      simp [h1 n (by omega)]
    · rw [ih h (fun t a b => h2 t a (by omega))]
      simp [h2 n h (by omega)]

set_option maxHeartbeats 1000000 in
set_option maxRecDepth 100000 in
theorem search_any (g : Nat) (cb : Array Value) (n k : Nat) (p : Nat → Bool) (w : World) (eg : ∀ args w, (callFunc g args).run Tryz.prog w = .ok (.enter g args) w) (hsz : n < 4611686018427387904) (hk : k ≤ n)
    (h1 : ∀ t, t < k → p t = false) (h2 : ∀ t, k ≤ t → t < n → p t = true)
    (hf : ∀ (i : Nat) (W : World), i < n → Below w.heap.size w W → Calls Tryz.prog g (#[.int .i64 i] ++ cb) W fun e w' => e = .returned (.bool (p i)) ∧ Below W.heap.size W w') :
    Calls Tryz.prog 244 #[.int .i64 n, .func (.func g) #[] cb] w fun e w' => e = .returned (.int .i64 k) ∧ Below w.heap.size w w' := by
  have HF := Lib.hid hf
  have H1 := Lib.hid h1
  have H2 := Lib.hid h2
  clear hf h1 h2
  go_enter Tryz.func244, Tryz.ntmps244
  go_wp2
  go_loopg [5, 6] n (fun kx s5 s6 wr => ∃ (lo hi : Nat), s5 = .int .i64 lo ∧ s6 = .int .i64 hi ∧ lo ≤ hi ∧ hi ≤ n ∧ hi - lo ≤ kx ∧ lo ≤ k ∧ k ≤ hi ∧ Below w.heap.size w wr)
  case atStart => exact ⟨0, n, rfl, rfl, Nat.zero_le _, Nat.le_refl _, by omega, Nat.zero_le _, hk, Below.refl _ _⟩
  case round =>
    obtain ⟨lo, hi, rfl, rfl, hlh, hin, hg, hlk, hkh, hnx⟩ := hrel
    by_cases hlt : lo < hi
    · have hc := HF.out ((lo + hi) / 2) wr (by omega) hnx
      rw [show (((lo + hi) / 2 : Nat) : Int) = ((lo : Int) + (hi : Int)) / 2 by omega] at hc
      rcases Nat.lt_or_ge ((lo + hi) / 2) k with h | h
      · rw [H1.out _ h] at hc
        have HC := Lib.hid hc
        clear hc
        go_wp2_with (go_at_fn g; refine HC.out.mono ?_; rintro e w' ⟨rfl, hb⟩)
        go_roundg (hi - ((lo + hi) / 2 + 1))
        case measure => omega
        case rel => exact ⟨(lo + hi) / 2 + 1, hi, by rw [show ((lo : Int) + (hi : Int)) / 2 + 1 = (((lo + hi) / 2 + 1 : Nat) : Int) by omega], rfl, by omega, hin, Nat.le_refl _, by omega, hkh, below_up hnx hb⟩
      · rw [H2.out _ h (by omega)] at hc
        have HC := Lib.hid hc
        clear hc
        go_wp2_with (go_at_fn g; refine HC.out.mono ?_; rintro e w' ⟨rfl, hb⟩)
        go_roundg ((lo + hi) / 2 - lo)
        case measure => omega
        case rel => exact ⟨lo, (lo + hi) / 2, rfl, by rw [show ((lo : Int) + (hi : Int)) / 2 = (((lo + hi) / 2 : Nat) : Int) by omega], by omega, by omega, Nat.le_refl _, hlk, h, below_up hnx hb⟩
    · obtain rfl : hi = lo := by omega
      obtain rfl : k = hi := by omega
      go_wp2
      go_ret
      exact ⟨rfl, hnx⟩

theorem cmp_pos (x y : Nat) : decide (0 < Lib.compareInt x y) = decide (y < x) := by
  unfold Lib.compareInt
  rcases Nat.lt_or_ge x y with h | h
  · rw [if_pos (by omega)]; simp; omega
  · rw [if_neg (by omega)]
    rcases Nat.lt_or_ge y x with h1 | h1
    · rw [if_pos (by omega)]; simp [h1]
    · rw [if_neg (by omega)]; simp; omega

set_option maxHeartbeats 1000000 in
theorem over1_any (d b r B8 B5 : Nat) (u v : Value) (w : World) (h8 : w.cell? ⟨B8, 0, none⟩ = some (.func (.func 242) #[u] #[])) (h5 : w.cell? ⟨B5, 0, none⟩ = some v)
    (hu : Rd w u (dg 10000 b)) (hv : Rd w v (dg 10000 r)) (hb : b < big) (hd : d ≤ 9998) :
    Calls Tryz.prog 243 #[.int .i64 d, .pointer (some ⟨B8, 0, none⟩), .pointer (some ⟨B5, 0, none⟩)] w fun e w' => e = .returned (.bool (decide (r < b * (d + 1)))) ∧ Below w.heap.size w w' := by
  rw [← cmp_pos]
  have hmixed : Tryz.prog.follows .mixedOrders = true := by kernel_rfl
  have HU := Lib.hid hu
  have HV := Lib.hid hv
  have ec : ((d : Int) + 1) = ((d + 1 : Nat) : Int) := by omega
  have C1 := Lib.hid (by_any b (d + 1) u w.drew (hu.below (Below.refl _ _).drew) hb (by omega))
  rw [← ec] at C1
  generalize b * (d + 1) = m at C1 ⊢
  have hw : IntKind.i64.wrap ((d : Int) + 1) = (d : Int) + 1 := IntWalk.i64_in _ (by omega)
  clear hu hv ec
  go_enter Tryz.func243, Tryz.ntmps243
  go_wp2
  go_region_with (first
    | (go_at_call 242; (with_reducible refine C1.out.mono ?_); rintro e w1 ⟨v1, rfl, hr1, hb1⟩; have hbl1 := below_drewL hb1; have h51 := (hbl1.cell (cell_lt h5)).trans h5)
    | (go_at_call 166; (with_reducible refine (compare_any m r _ _ w1 hr1 (HV.out.below hbl1)).mono ?_); rintro e w2 ⟨rfl, hb2⟩; have hbl2 := below_up hbl1 hb2))
  all_goals go_wp2
  all_goals go_ret
  all_goals exact ⟨rfl, hbl2⟩

end Go.Proofs.YtffndcjmabjhiaaGreatDoor

namespace Go.Proofs.YtffndcjmabjhiaaGreatDoor
open Go.RowKit Num
open Go.Shelf
attribute [local go_sem] Oper.semAt_some

/-! ### What the rounds come to -/
def ost (a b : Nat) (pre : List (Fin (dg 10000 a).length)) : Nat × List Int :=
  pre.foldl (fun s x => ((s.1 * 10000 + dgn a x.1) % b, s.2.set x.1 (((s.1 * 10000 + dgn a x.1) / b : Nat) : Int))) (0, List.replicate (dg 10000 a).length 0)
theorem ost_snoc (a b : Nat) (pre : List (Fin (dg 10000 a).length)) (x : Fin (dg 10000 a).length) :
    ost a b (pre ++ [x]) = (((ost a b pre).1 * 10000 + dgn a x.1) % b, (ost a b pre).2.set x.1 ((((ost a b pre).1 * 10000 + dgn a x.1) / b : Nat) : Int)) := by unfold ost; rw [List.foldl_append]; rfl
theorem ost_gen {a b : Nat} (hb : 0 < b) : ∀ (pre : List (Fin (dg 10000 a).length)) (s : Nat × List Int), s.1 < b → Dig 10000 s.2 → s.2.length = (dg 10000 a).length →
    (pre.foldl (fun s x => ((s.1 * 10000 + dgn a x.1) % b, s.2.set x.1 (((s.1 * 10000 + dgn a x.1) / b : Nat) : Int))) s).1 < b ∧
    Dig 10000 (pre.foldl (fun s x => ((s.1 * 10000 + dgn a x.1) % b, s.2.set x.1 (((s.1 * 10000 + dgn a x.1) / b : Nat) : Int))) s).2 ∧
    (pre.foldl (fun s x => ((s.1 * 10000 + dgn a x.1) % b, s.2.set x.1 (((s.1 * 10000 + dgn a x.1) / b : Nat) : Int))) s).2.length = (dg 10000 a).length
  | [], s, h1, h2, h3 => ⟨h1, h2, h3⟩
  | x :: pre, s, h1, h2, h3 => by
    rw [List.foldl_cons]
    refine ost_gen hb pre _ (Nat.mod_lt _ hb) ?_ (by rw [List.length_set]; exact h3)
    intro y hy
    rcases List.mem_or_eq_of_mem_set hy with h | rfl
    · exact h2 y h
    · have hd := dgn_le a x.1
      have h5 : (s.1 * 10000 + dgn a x.1) / b < 10000 := Nat.div_lt_of_lt_mul (by
        have : (s.1 + 1) * 10000 ≤ b * 10000 := Nat.mul_le_mul_right _ h1
        omega)
      generalize (s.1 * 10000 + dgn a x.1) / b = z at h5 ⊢
      omega
theorem ost_inv {a b : Nat} (hb : 0 < b) (pre : List (Fin (dg 10000 a).length)) : (ost a b pre).1 < b ∧ Dig 10000 (ost a b pre).2 ∧ (ost a b pre).2.length = (dg 10000 a).length :=
  ost_gen hb pre _ hb (fun x hx => by rw [(List.mem_replicate.1 hx).2]; omega) (by simp)
theorem ost_down {a b : Nat} (hb : 0 < b) : ∀ k, k ≤ (dg 10000 a).length →
    nv 10000 ((ost a b (down (dg 10000 a).length k)).2.drop ((dg 10000 a).length - k)) * b + ((ost a b (down (dg 10000 a).length k)).1 : Int) = nv 10000 ((dg 10000 a).drop ((dg 10000 a).length - k))
  | 0, _ => by
    have h := (ost_inv hb (down (dg 10000 a).length 0)).2.2
    rw [Nat.sub_zero, List.drop_of_length_le (Nat.le_refl _), List.drop_of_length_le (by rw [h]; exact Nat.le_refl _)]
    simp [ost, down, nv]
  | k + 1, h => by
    have ih := ost_down (a := a) hb k (by omega)
    rw [down_succ (show k < (dg 10000 a).length from h), ost_snoc]
    have hl := (ost_inv hb (down (dg 10000 a).length k)).2.2
    generalize ost a b (down (dg 10000 a).length k) = s at ih hl ⊢
    obtain ⟨r, q⟩ := s
    simp only at ih hl ⊢
    have ei : (dg 10000 a).length - (k + 1) = (dg 10000 a).length - 1 - k := by omega
    have ej : (dg 10000 a).length - 1 - k + 1 = (dg 10000 a).length - k := by omega
    rw [ei]
    have e1 : (dg 10000 a).drop ((dg 10000 a).length - 1 - k) = nth (dg 10000 a) ((dg 10000 a).length - 1 - k) :: (dg 10000 a).drop ((dg 10000 a).length - k) := by
      rw [List.drop_eq_getElem_cons (by omega), ej]
      congr 1
      unfold nth
      rw [List.getElem?_eq_getElem (by omega)]
      rfl
    have e2 : ∀ z : Int, (q.set ((dg 10000 a).length - 1 - k) z).drop ((dg 10000 a).length - 1 - k) = z :: q.drop ((dg 10000 a).length - k) := by
      intro z
      rw [List.drop_eq_getElem_cons (by rw [List.length_set]; omega), ej, List.getElem_set_self, List.drop_set_of_lt (by omega)]
    rw [e1, e2, nv, nv, ← ih, dgn_eq]
    generalize nv 10000 (q.drop ((dg 10000 a).length - k)) = N
    generalize dgn a ((dg 10000 a).length - 1 - k) = d
    have hm := Nat.div_add_mod (r * 10000 + d) b
    have hm' : (b : Int) * (((r * 10000 + d) / b : Nat) : Int) + (((r * 10000 + d) % b : Nat) : Int) = (r : Int) * 10000 + d := by
      rw [← Int.natCast_mul, ← Int.natCast_add, hm]; omega
    generalize (((r * 10000 + d) / b : Nat) : Int) = Q at hm' ⊢
    generalize (((r * 10000 + d) % b : Nat) : Int) = M at hm' ⊢
    show (Q + ((10000 : Nat) : Int) * N) * b + M = d + ((10000 : Nat) : Int) * (N * b + r)
    rw [Int.add_mul, Int.mul_comm Q, Int.mul_add, Int.mul_assoc]
    omega
theorem ost_all {a b : Nat} (hb : 0 < b) : nv 10000 (ost a b (down (dg 10000 a).length (dg 10000 a).length)).2 = ((a / b : Nat) : Int) ∧ (ost a b (down (dg 10000 a).length (dg 10000 a).length)).1 = a % b := by
  have h := ost_down hb _ (Nat.le_refl (dg 10000 a).length)
  have hi := ost_inv hb (down (dg 10000 a).length (dg 10000 a).length)
  rw [Nat.sub_self, List.drop_zero, List.drop_zero, nv_dg (by omega)] at h
  generalize ost a b (down (dg 10000 a).length (dg 10000 a).length) = s at h hi ⊢
  obtain ⟨r, q⟩ := s
  simp only at h hi ⊢
  obtain ⟨N, hN⟩ : ∃ N : Nat, nv 10000 q = N := ⟨_, (Int.toNat_of_nonneg (nv_nonneg hi.2.1)).symm⟩
  rw [hN] at h ⊢
  have h' : N * b + r = a := by
    rw [← Int.natCast_mul, ← Int.natCast_add] at h; omega
  subst h'
  constructor
  · congr 1
    rw [Nat.mul_comm, Nat.mul_add_div hb, Nat.div_eq_of_lt hi.1]; rfl
  · rw [Nat.mul_comm, Nat.mul_add_mod, Nat.mod_eq_of_lt hi.1]

/-- 'make([]int, n)' within a fence. -/
theorem make_ints_in {F : Fence} {n : Nat} {w : World} {ops : Array Oper} {rest : List Oper} {o : Oper} {a : Act} {Q : Exit → Act → World → Prop} (hg : o.guard = none) (l c : Operand)
    (hop : o.op = Op.makeSlice 213 l c) (L : Nat) (hl : a.eval l = .int .i64 L) (hc : a.eval c = .int .i64 L) (hL : L ≤ 900000)
    (hK : ∀ w', w'.ownsRow w.heap.size 3 1 (.slice (some ⟨w.heap.size, 0, none⟩) L L) L ((List.replicate L (0 : Int)).map (Value.int .i64)) → Below w.heap.size w w' → wpListIn F n Tryz.prog ops Q rest (a.put o.dst (.slice (some ⟨w.heap.size, 0, none⟩) L L)) w') :
    wpListIn F n Tryz.prog ops Q (o :: rest) a w := by
  obtain ⟨i0, hi, hz0, hz1, hz2⟩ := info_parts Tryz.info3
  refine wpListIn_plain hg fun K hK' => ?_
  obtain ⟨w', hrun, r1, r2⟩ := run_make_full (P := Tryz.prog) w w.heap.size 213 3 i0 (.int .i64 0) 1 Tryz.underlying213 hi hz0 hz1 .i64 .i64 L (by rw [hz2]; omega) (by unfold maxLen; omega) (Nat.le_refl _)
  unfold Oper.wpIn
  refine ⟨?_, ?_⟩
  · simp [Oper.about, hop]
  · rw [Oper.semAt_plain F _ _ (by rw [hop]; intro c hc'; cases hc')]
    simp [execOp, hop, hl, hc, hrun, Result.andThen]
    refine hK' _ _ (hK w' ?_ ((Below.refl _ _).grown r2 (Nat.le_refl _) (fun k e => by cases e)))
    have e : (madeCells (Value.int .i64 0).cells (L * 1)).toList = (List.replicate L (0 : Int)).map (Value.int .i64) := by
      rw [Nat.mul_one, List.map_replicate]
      exact toList_madeCells_one _ _
    rw [← e]; exact r1

end Go.Proofs.YtffndcjmabjhiaaGreatDoor

namespace Go.Proofs.YtffndcjmabjhiaaGreatDoor
open Go.RowKit

/-! ### A call through a function value in a slot: taken ahead of any unfolding -/
def isDyn : Value → Bool
  | .func (.func _) _ _ => true
  | _ => false
def fidOf : Value → FuncId
  | .func (.func f) _ _ => f
  | _ => 0
def firstOf : Value → Array Value
  | .func (.func _) xs _ => xs
  | _ => #[]
def capOf : Value → Array Value
  | .func (.func _) _ xs => xs
  | _ => #[]
@[go_sem] theorem isDyn_func (f : FuncId) (xs ys : Array Value) : isDyn (.func (.func f) xs ys) = true := rfl
@[go_sem] theorem fidOf_func (f : FuncId) (xs ys : Array Value) : fidOf (.func (.func f) xs ys) = f := rfl
@[go_sem] theorem firstOf_func (f : FuncId) (xs ys : Array Value) : firstOf (.func (.func f) xs ys) = xs := rfl
@[go_sem] theorem capOf_func (f : FuncId) (xs ys : Array Value) : capOf (.func (.func f) xs ys) = ys := rfl
@[go_sem ↓] theorem execOp_call_dyn (a : Act) (n : Tmp) (dst : Option Tmp) (xs : Array Operand) (ats : Array TypeId) (ty : TypeId) (pos : String) (after : Array Edge) (guard : Option (Nat × Bool)) (h : isDyn (a.eval (.tmp n)) = true) :
    execOp a.eval { dst, op := .call { callee := .value (.tmp n), args := xs, argTypes := ats }, type := ty, pos, after, guard } =
      callFunc (fidOf (a.eval (.tmp n))) (firstOf (a.eval (.tmp n)) ++ xs.map a.eval ++ capOf (a.eval (.tmp n))) := by
  generalize hv : a.eval (.tmp n) = v at h ⊢
  cases v with
  | func fn fs cs =>
    cases fn with
    | func f => simp only [execOp, resolve, hv, Deferred.ofValue]; rfl
    | _ => cases h
  | _ => cases h

end Go.Proofs.YtffndcjmabjhiaaGreatDoor
