/- The walk of package integer's 'compare' of groups of digits. Conditions: sizes. -/
import Derived.Test.YtcpkejpdpohfeaaGreatDoorI4
import Derived.Test.YtcpkejpdpohfeaaGreatDoorShelf
namespace Go.Proofs.YtcpkejpdpohfeaaGreatDoor
open Go.RowKit Num
open Go.Shelf
attribute [local go_sem] Oper.semAt_some

set_option maxHeartbeats 400000 in
theorem backward_any (v : Value) (xs : List Int) (w : World) (hR : Rd w v xs) :
    Calls Tryz.prog 60 #[v] w fun e w' => e = .returned (.func (.func 78) #[] #[.pointer (some ⟨w.heap.size, 0, none⟩)]) ∧ w' = w.alloc (.cells #[v] 48) := by
  obtain ⟨A, c, rfl, _⟩ := hR
  go_enter Tryz.func60, Tryz.ntmps60
  go_wp2
  go_ret
  exact ⟨rfl, rfl⟩

theorem cmp_len {a b : Nat} (h : (dg 10000 a).length ≠ (dg 10000 b).length) : Lib.compareInt ((dg 10000 a).length : Nat) ((dg 10000 b).length : Nat) = Lib.compareInt a b := by
  rcases Nat.lt_or_ge (dg 10000 a).length (dg 10000 b).length with h1 | h1
  · have := lt_of_len (by omega) h1
    unfold Lib.compareInt
    rw [if_pos (by omega), if_pos (by omega)]
  · have := lt_of_len (B := 10000) (by omega) (show (dg 10000 b).length < (dg 10000 a).length by omega)
    unfold Lib.compareInt
    rw [if_neg (by omega), if_pos (by omega), if_neg (by omega), if_pos (by omega)]

set_option maxHeartbeats 400000 in
theorem compare_len (a b : Nat) (v u : Value) (w : World) (hv : Rd w v (dg 10000 a)) (hu : Rd w u (dg 10000 b)) (hne : (dg 10000 a).length ≠ (dg 10000 b).length) :
    Calls Tryz.prog 46 #[v, u] w fun e w' => e = .returned (.int .i64 (Lib.compareInt a b)) ∧ Below w.heap.size w w' := by
  rw [← cmp_len hne]
  obtain ⟨A, c, rfl, _, _, _⟩ := hv
  obtain ⟨A', c', rfl, _, _, _⟩ := hu
  generalize (dg 10000 a).length = la at *
  generalize (dg 10000 b).length = lb at *
  have h1 : ((la : Int) == (lb : Int)) = false := by simp; omega
  have h2 : ((la : Int) != (lb : Int)) = true := by simp; omega
  clear hne
  go_enter Tryz.func46, Tryz.ntmps46
  go_wp2_with (go_at_call 72; refine (Tryz.cmp_Compare_int _ _ _).mono ?_; rintro e w' ⟨rfl, rfl⟩)
  exact bodyPost_ret (v := .int .i64 (Lib.compareInt la lb)) (by simp [results, Tryz.results46, go_sem]) rfl ⟨rfl, below2 _ _ _⟩

theorem mem_down {n : Nat} {q : Fin n} : ∀ {k : Nat}, k ≤ n → (q ∈ down n k ↔ n - k ≤ q.1)
  | 0, _ => by simp [down]
  | k + 1, h => by
    rw [down_succ (by omega), List.mem_append, mem_down (by omega), List.mem_singleton]
    constructor
    · rintro (h1 | rfl)
      · omega
      · show n - (k + 1) ≤ n - 1 - k; omega
    · intro h1
      by_cases h2 : n - k ≤ q.1
      · exact .inl h2
      · right; exact Fin.ext (by show q.1 = n - 1 - k; omega)

theorem snoc_down {n k : Nat} {pre : List (Fin n)} {p : Fin n} (hk : k ≤ n) (h : pre ++ [p] = down n k) : ∃ j, j < n ∧ p.1 = n - 1 - j ∧ pre = down n j := by
  cases k with
  | zero => have := congrArg List.length h; simp [down] at this
  | succ k =>
    rw [down_succ (by omega)] at h
    have h1 := List.append_inj' h rfl
    have h2 : p = ⟨n - 1 - k, by omega⟩ := by simpa using h1.2
    exact ⟨k, by omega, by rw [h2], h1.1⟩

/-- The first place from above at which two lists of one length part decides. -/
theorem cmp_at {a b k : Nat} (hl : (dg 10000 a).length = (dg 10000 b).length) (hk : k < (dg 10000 a).length)
    (hup : ∀ q, k < q → (dg 10000 a)[q]?.getD 0 = (dg 10000 b)[q]?.getD 0) (hne : (dg 10000 a)[k]?.getD 0 ≠ (dg 10000 b)[k]?.getD 0) :
    Lib.compareInt ((dg 10000 a)[k]?.getD 0) ((dg 10000 b)[k]?.getD 0) = Lib.compareInt a b := by
  have hd : (dg 10000 a).drop (k + 1) = (dg 10000 b).drop (k + 1) := by
    apply List.ext_getElem?
    intro i
    rw [List.getElem?_drop, List.getElem?_drop]
    have := hup (k + 1 + i) (by omega)
    rcases Nat.lt_or_ge (k + 1 + i) (dg 10000 a).length with h1 | h1
    · rw [List.getElem?_eq_getElem h1, List.getElem?_eq_getElem (by omega)] at this ⊢
      simp only [Option.getD_some] at this
      rw [this]
    · rw [List.getElem?_eq_none h1, List.getElem?_eq_none (by omega)]
  have ea : (dg 10000 a)[k]?.getD 0 = (dg 10000 a)[k] := by rw [List.getElem?_eq_getElem hk]; rfl
  have eb : (dg 10000 b)[k]?.getD 0 = (dg 10000 b)[k] := by rw [List.getElem?_eq_getElem (by omega)]; rfl
  rw [ea, eb] at hne ⊢
  rcases Int.lt_or_le (dg 10000 a)[k] (dg 10000 b)[k] with h1 | h1
  · have := nv_lt_of (dig_dg (by omega) a) (dig_dg (by omega) b) k hk (by omega) hd h1
    rw [nv_dg (by omega), nv_dg (by omega)] at this
    unfold Lib.compareInt
    rw [if_pos h1, if_pos (by omega)]
  · have h2 : (dg 10000 b)[k] < (dg 10000 a)[k] := by omega
    have := nv_lt_of (dig_dg (by omega) b) (dig_dg (by omega) a) k (by omega) hk hd.symm h2
    rw [nv_dg (by omega), nv_dg (by omega)] at this
    unfold Lib.compareInt
    rw [if_neg (by omega), if_pos h2, if_neg (by omega), if_pos (by omega)]

theorem cmp_all {a b : Nat} (hl : (dg 10000 a).length = (dg 10000 b).length) (h : ∀ q, q < (dg 10000 a).length → (dg 10000 a)[q]?.getD 0 = (dg 10000 b)[q]?.getD 0) : Lib.compareInt a b = 0 := by
  have e : dg 10000 a = dg 10000 b := by
    apply List.ext_getElem hl
    intro i h1 h2
    have := h i h1
    rwa [List.getElem?_eq_getElem h1, List.getElem?_eq_getElem h2] at this
  have := nv_inj (by omega) e
  subst this
  unfold Lib.compareInt
  rw [if_neg (by omega), if_neg (by omega)]

set_option maxRecDepth 100000 in
set_option maxHeartbeats 2000000 in
theorem compare_eq (a b : Nat) (v u : Value) (w : World) (hv : Rd w v (dg 10000 a)) (hu : Rd w u (dg 10000 b)) (hl : (dg 10000 a).length = (dg 10000 b).length) :
    Calls Tryz.prog 46 #[v, u] w fun e w' => e = .returned (.int .i64 (Lib.compareInt a b)) ∧ Below w.heap.size w w' := by
  have BK := fun W (h : Rd W v (dg 10000 a)) => backward_any v (dg 10000 a) W h
  have HV := Lib.hid hv
  have HU := Lib.hid hu
  obtain ⟨A, c, rfl, _, _, _⟩ := hv
  obtain ⟨A', c', rfl, _, _, hxu⟩ := hu
  have HXU := Lib.hid hxu
  clear hxu
  have h1 : (((dg 10000 a).length : Int) == ((dg 10000 b).length : Int)) = true := by simp; omega
  have h2 : (((dg 10000 a).length : Int) != ((dg 10000 b).length : Int)) = false := by simp; omega
  have HL := Lib.hid hl
  clear hl
  refine (callsIn_wide (n := 6)).1 ?_
  refine callsIn_of_wp_marks Tryz.func46 rfl trivial ?_ rfl
  simp only [Tryz.ntmps46, List.size_toArray, List.length_cons, List.length_nil, Nat.reduceAdd, Nat.reduceSub, Array.replicate_succ, Array.replicate_zero, List.push_toArray, List.append_toArray, List.nil_append, List.cons_append]
  gi_wp2_with (refine ⟨trivial, ?_⟩; gi_at_call 60; refine (callsIn_wide.2 (BK _ (HV.out.below (below2 _ _ _)))).mono ?_; rintro e w' ⟨rfl, rfl⟩)
  obtain ⟨W0, hW0⟩ : ∃ W0, ((w.alloc (.cells #[.slice A' (dg 10000 b).length c'] 48)).alloc (.cells #[.int .i64 0] 3)).alloc (.cells #[.slice A (dg 10000 a).length c] 48) = W0 := ⟨_, rfl⟩
  have hsz : W0.heap.size = w.heap.size + 3 := by rw [← hW0]; simp
  have hB0 : Below w.heap.size w W0 := by rw [← hW0]; exact (below2 _ _ _).alloc (by simp; omega) _
  have bu : Boxed W0 w.heap.size 48 (.slice A' (dg 10000 b).length c') := by rw [← hW0]; exact ((Boxed.new _ _ _).alloc _).alloc _
  have br : Boxed W0 (w.heap.size + 1) 3 (.int .i64 0) := by
    rw [← hW0]; have := (Boxed.new (w.alloc (.cells #[.slice A' (dg 10000 b).length c'] 48)) 3 (.int .i64 0)).alloc (.cells #[.slice A (dg 10000 a).length c] 48)
    rwa [World.size_alloc] at this
  have bl : W0.cell? ⟨w.heap.size + 1 + 1, 0, none⟩ = some (.slice A (dg 10000 a).length c) := by
    rw [← hW0]; have := cell_new1 ((w.alloc (.cells #[.slice A' (dg 10000 b).length c'] 48)).alloc (.cells #[.int .i64 0] 3)) (.slice A (dg 10000 a).length c) 48
    simpa using this
  rw [hW0]
  clear hW0
  refine range_back (by omega) (Bs := w.heap.size + 1 + 1) (v := .slice A (dg 10000 a).length c) (xs := dg 10000 a) rfl bl (HV.out.below hB0) rfl w hB0 [w.heap.size + 1]
    (fun k hk => by
      rw [List.mem_singleton] at hk; subst hk
      exact ⟨by omega, by omega, by omega, fun e => by have := HV.out.row_lt e; omega⟩)
    (fun pre W => (Boxed W w.heap.size 48 (.slice A' (dg 10000 b).length c') ∧ Boxed W (w.heap.size + 1) 3 (.int .i64 0)) ∧ ∀ p ∈ pre, nth (dg 10000 a) p.1 = nth (dg 10000 b) p.1)
    (fun cd pre W => cd = .ret ∧ ∃ pre' p, pre = pre' ++ [p] ∧ (∀ q ∈ pre', nth (dg 10000 a) q.1 = nth (dg 10000 b) q.1) ∧ nth (dg 10000 a) p.1 ≠ nth (dg 10000 b) p.1 ∧ Boxed W (w.heap.size + 1) 3 (.int .i64 (Lib.compareInt (nth (dg 10000 a) p.1) (nth (dg 10000 b) p.1))))
    (fun s X Y hs _ hk => ⟨⟨boxedCO hk hs.1.1, boxedCO hk hs.1.2⟩, hs.2⟩)
    (fun cd s X Y hs _ hk => by obtain ⟨h1, pre', p, h2, h3, h4, h5⟩ := hs; exact ⟨h1, pre', p, h2, h3, h4, boxedCO hk h5⟩)
    ⟨⟨bu, br⟩, fun p hp => by cases hp⟩
    (fun x => { tmps := #[.slice A (dg 10000 a).length c, .slice A' (dg 10000 b).length c', undef, .pointer (some ⟨w.heap.size, 0, none⟩), .pointer (some ⟨w.heap.size + 1, 0, none⟩), .int .i64 (x.1 : Nat), .int .i64 (nth (dg 10000 a) x.1), .slice A (dg 10000 a).length c, .int .i64 (dg 10000 a).length, .slice A' (dg 10000 b).length c', .int .i64 (dg 10000 b).length, .bool false, undef, undef, undef, undef, undef, .slice A (dg 10000 a).length c, .func (.func 78) #[] #[.pointer (some ⟨w.heap.size + 1 + 1, 0, none⟩)], .int .i64 (x.1 : Nat), .int .i64 (nth (dg 10000 a) x.1), undef, undef, undef, undef, undef, undef, undef, undef, undef, undef, undef, undef], defers := [] }) ?assign ?body ?done ?stop
  case assign =>
    intro l x W K hK
    gi_wp2
    exact hK
  case body =>
    rintro l pre x W ⟨⟨hbu, hbr⟩, hp⟩ hbW htW hlen
    have hxb : x.1 < (dg 10000 b).length := by rw [← HL.out]; exact x.2
    obtain ⟨b', o', rfl, hy⟩ := HXU.out (by omega)
    have hcell : W.cell? ⟨b', o' + x.1, none⟩ = some (.int .i64 (nth (dg 10000 b) x.1)) := (hbW.cell (cell_lt (hy x.1 hxb))).trans (hy x.1 hxb)
    have hx0 : (x.1 : Int) < ((dg 10000 b).length : Int) := by omega
    have hcu := hbu.cell
    have hcr := hbr.cell
    have hfr := hbr.frozen
    have HBU := Lib.hid hbu
    have HBR := Lib.hid hbr
    have HP := Lib.hid hp
    clear hbu hbr hp hy hxb hlen
    by_cases he : nth (dg 10000 a) x.1 = nth (dg 10000 b) x.1
    · have HE := Lib.hid he
      have hb : (nth (dg 10000 a) x.1 != nth (dg 10000 b) x.1) = false := by rw [he]; simp
      clear he
      gi_wp2
      refine ⟨Turn.refl _ _, ⟨HBU.out, HBR.out⟩, fun q hq => ?_⟩
      rcases List.mem_append.1 hq with h | h
      · exact HP.out q h
      · rw [List.mem_singleton] at h; rw [h]; exact HE.out
    · have HE := Lib.hid he
      have hb : (nth (dg 10000 a) x.1 != nth (dg 10000 b) x.1) = true := by simpa using he
      clear he
      gi_wp2_with (refine ⟨trivial, ?_⟩; gi_at_call 72; refine (CallsIn.inRound l (callsIn_wide.2 (Tryz.cmp_Compare_int _ _ _))).mono ?_; rintro e w' ⟨rfl, rfl⟩)
      exact ⟨Turn.setCell _ _ _ _ (by simp), rfl, pre, x, rfl, HP.out, HE.out, HBR.out.set _⟩
  case done =>
    rintro D W hD ⟨⟨hbu, hbr⟩, hp⟩ hbW htW hK
    have hcr := hbr.cell
    have hfr := hbr.frozen
    have e0 : Hid (Lib.compareInt a b = 0) := cmp_all HL.out (fun q hq => hp ⟨q, hq⟩ ((mem_down (Nat.le_refl _)).2 (by omega)))
    have HBR := Lib.hid hbr
    clear hbu hbr hp
    gi_wp2
    have hK' := mark_set hK ⟨w.heap.size + 1, 0, none⟩ (.int .i64 0)
    refine ⟨by simp, .inl ⟨_, _, rfl, run_takeDeferred hK', ?_⟩⟩
    have hc5 := cell_mark hK' (HBR.out.set (.int .i64 0)).cell
    refine ⟨.int .i64 0, by simp [results, Tryz.f46, go_sem, hc5], by rw [e0.out], ?_⟩
    exact below_mark (hbW.setCell (p := ⟨w.heap.size + 1, 0, none⟩) (by simp) _) (Nat.le_refl _) (by omega)
  case stop =>
    rintro D cd pre W hD ⟨k, hk, hSp⟩ ⟨rfl, pre', p, hpre, hp, hne, hbr⟩ hbW hK
    obtain ⟨j, hj, hpj, rfl⟩ := snoc_down hk (hpre.symm.trans hSp)
    have e0 := cmp_at HL.out p.2 (fun q hq => by
      rcases Nat.lt_or_ge q (dg 10000 a).length with h | h
      · exact hp ⟨q, h⟩ ((mem_down (by omega)).2 (by show _ ≤ q; omega))
      · have := HL.out; rw [dgout h, dgout (by omega)]) hne
    have E0 := Lib.hid e0
    have hcr := hbr.cell
    have HBR := Lib.hid hbr
    clear e0 hbr hp hne hpre hSp
    gi_wp2
    refine ⟨by simp, .inl ⟨_, _, rfl, run_takeDeferred hK, ?_⟩⟩
    have hc5 := cell_mark hK HBR.out.cell
    refine ⟨.int .i64 (Lib.compareInt (nth (dg 10000 a) p.1) (nth (dg 10000 b) p.1)), by simp [results, Tryz.f46, go_sem, hc5], by rw [← E0.out]; rfl, ?_⟩
    exact below_mark hbW (Nat.le_refl _) (by omega)

theorem compare_any (a b : Nat) (v u : Value) (w : World) (hv : Rd w v (dg 10000 a)) (hu : Rd w u (dg 10000 b)) :
    Calls Tryz.prog 46 #[v, u] w fun e w' => e = .returned (.int .i64 (Lib.compareInt a b)) ∧ Below w.heap.size w w' := by
  by_cases h : (dg 10000 a).length = (dg 10000 b).length
  · exact compare_eq a b v u w hv hu h
  · exact compare_len a b v u w hv hu h

end Go.Proofs.YtcpkejpdpohfeaaGreatDoor
