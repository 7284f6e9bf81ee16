/- workpieceref04: Long. Conditions: sizes. -/
import Derived.Test.YtnioinccflmdjaaGreatDoorW7
namespace Go.Proofs.YtnioinccflmdjaaGreatDoor
open Go.RowKit Num
open Go.Shelf

/-- A string of digits. -/
def Dgs (t : ByteArray) : Prop := t.data.toList.all isD = true
/-- The text of a number of at most 100 digits. -/
def PosT (t : ByteArray) : Prop := ∃ z : Int, Is t z ∧ 0 ≤ z ∧ z.natAbs < 10 ^ 100
theorem dgs_nil : Dgs ⟨#[]⟩ := rfl
theorem dgs_snoc {t : ByteArray} (h : Dgs t) {d : Int} (h0 : 0 ≤ d) (h1 : d ≤ 9) : Dgs (t ++ ⟨#[UInt8.ofNat (48 + d).toNat]⟩) := by
  unfold Dgs at h ⊢
  rw [ByteArray.data_append, Array.toList_append, List.all_append, h]
  have e : (48 + d).toNat = 48 + d.toNat := by omega
  rw [e, Bool.true_and]
  show (isD (UInt8.ofNat (48 + d.toNat)) && true) = true
  rw [isD_ch (by omega)]; rfl
theorem dgs_tail {t : ByteArray} (h : Dgs t) : Dgs (t.extract 1 t.size) := by
  unfold Dgs at h ⊢
  rw [List.all_eq_true] at h ⊢
  intro x hx
  refine h x ?_
  rw [ByteArray.data_extract, Array.toList_extract] at hx
  exact List.mem_of_mem_drop (List.mem_of_mem_take hx)
theorem snoc_size (t : ByteArray) (b : UInt8) : (t ++ ⟨#[b]⟩).size = t.size + 1 := by
  rw [ByteArray.size_append]; rfl
theorem pos_of {t : ByteArray} (h : Dgs t) (h1 : 1 ≤ t.size) (h2 : t.size ≤ 100) (h3 : t.size = 1 ∨ t.data.toList.head? ≠ some 48) : PosT t := by
  unfold Dgs at h
  have hl : t.data.toList.length = t.size := by simp
  have hb : body t.data.toList = t.data.toList := by
    unfold body
    rw [if_neg]
    intro hc
    cases hd : t.data.toList with
    | nil => rw [hd] at hc; cases hc
    | cons c l =>
      rw [hd] at hc h
      cases hc
      rw [List.all_cons] at h
      exact absurd h (by simp [isD])
  have hv : validL t.data.toList = true := by
    unfold validL
    rw [hb, h]
    cases hd : t.data.toList with
    | nil => rw [hd] at hl; simp at hl; omega
    | cons c l =>
      rw [hd] at hl h3 h
      simp only [List.length_cons] at hl
      have e1 : decide ((c :: l).length ≤ 200) = true := decide_eq_true (by simp only [List.length_cons]; omega)
      rw [e1]
      rcases h3 with h3 | h3
      · have : l = [] := List.eq_nil_of_length_eq_zero (by omega)
        subst this
        by_cases hc : c = 48
        · subst hc; rfl
        · simp [hc]
      · simp at h3
        simp [h3]
  refine ⟨(dval t.data.toList : Int), ?_, by omega, ?_⟩
  · unfold Is rdI
    rw [if_pos hv]
    unfold valL
    rw [hb, if_neg]
    intro hc
    have h4 : body t.data.toList = t.data.toList.tail := by unfold body; rw [if_pos hc]
    rw [hb] at h4
    cases hd : t.data.toList with
    | nil => rw [hd] at hc; cases hc
    | cons c l => rw [hd] at h4; have := congrArg List.length h4; simp at this
  · rw [Int.natAbs_natCast]
    have := dval_lt t.data.toList h
    rw [hl] at this
    exact Nat.lt_of_lt_of_le this (Nat.pow_le_pow_right (by omega) h2)
theorem head_no48 {t : ByteArray} {h : 0 < t.size} (h48 : ¬ (t[0]'h).toNat = 48) : t.data.toList.head? ≠ some 48 := by
  intro hc
  refine h48 ?_
  have e : t.data.toList.head? = some (t[0]'h) := by
    rw [List.head?_eq_getElem?]
    rw [List.getElem?_eq_getElem (by simpa using h)]
    rfl
  rw [e] at hc
  rw [Option.some.inj hc]; rfl
theorem is_minus {t : ByteArray} {z : Int} (h : Is t z) (h0 : 0 < z) : Is (⟨#[45]⟩ ++ t) (-z) := by
  have e : ⟨#[45]⟩ ++ t = tx (-z) := by
    rw [h.eq]
    unfold tx
    apply ByteArray.ext
    rw [ByteArray.data_append, itoa_neg (z := -z) (by omega), itoa_nonneg (z := z) (by omega), Int.natAbs_neg]
    simp
  rw [e]
  have := h.small
  exact is_tx (by unfold sm at this ⊢; omega)
theorem pos_zero {t : ByteArray} {z : Int} (h : Is t z) : t = ⟨#[48]⟩ ↔ z = 0 := by
  constructor
  · intro e; subst e; exact h.inj lit_0
  · intro e; subst e; exact h.uniq lit_0
theorem is_seven : Is ⟨#[55]⟩ 7 := by unfold Is; kernel_rfl
/-- A fraction of at most 100 digits, and no error. -/
def RetLQ (w : World) (e : Ending) (w' : World) : Prop := ∃ q : Rat, lim 100 q ∧ e = .returned (.tuple #[.agg #[.string (numT (some q)), .string (denT (some q))], .int .i64 0]) ∧ Below w.heap.size w w'
theorem tmake_lim {s t : ByteArray} {n d : Int} (hs : Is s n) (ht : Is t d) (hn : n.natAbs < 10 ^ 100) (hd : d.natAbs < 10 ^ 100) (h0 : d ≠ 0) (w : World) :
    Calls Tryz.prog 39 #[.string s, .string t] w (RetLQ w) := by
  refine (tmake_any s t (by have := hs.size; omega) (by have := ht.size; omega) w).mono fun e w' h => ?_
  rw [makeT_is hs ht, show makeQ n d = some (Rat.divInt n d) from if_neg h0] at h
  exact ⟨_, lim_divInt hn hd h0, h⟩
/-- What one byte is as a string. -/
theorem byte_str (d : Int) (h0 : 0 ≤ d) (h1 : d ≤ 9) (W : World) : (convert 35 9 (.slice (some ⟨W.heap.size, 0, none⟩) 1 1)).run Tryz.prog (W.alloc (.cells #[.int .u8 (48 + d)] 5)) = .ok (.string ⟨#[UInt8.ofNat (48 + d).toNat]⟩) (W.alloc (.cells #[.int .u8 (48 + d)] 5)) := by
  refine run_convert_bytes_back (P := Tryz.prog) _ 35 9 5 ⟨W.heap.size, 0, none⟩ 1 [UInt8.ofNat (48 + d).toNat] Tryz.underlying35 Tryz.underlying5 Tryz.underlying9 (fun j hj => ?_)
  obtain rfl : j = 0 := by simp at hj; omega
  rw [addr_add]
  show World.cell? _ ⟨W.heap.size, 0, none⟩ = _
  rw [World.cell?_alloc_mark]
  have e : (UInt8.ofNat (48 + d).toNat).toNat = (48 + d).toNat := by rw [UInt8.toNat_ofNat']; omega
  simp [e]
  omega

set_option maxHeartbeats 8000000 in
set_option maxRecDepth 100000 in
theorem long_any (x0 x1 x2 x3 : Int) (ha0 : -9223372036854775808 ≤ x0) (ha1 : x0 ≤ 9223372036854775807) (hb0 : -9223372036854775808 ≤ x1) (hb1 : x1 ≤ 9223372036854775807)
    (hc0 : -9223372036854775808 ≤ x2) (hc1 : x2 ≤ 9223372036854775807) (hd0 : -9223372036854775808 ≤ x3) (hd1 : x3 ≤ 9223372036854775807) (w : World) :
    Calls Tryz.prog 12 #[.agg #[.int .i64 x0, .int .i64 x1, .int .i64 x2, .int .i64 x3]] w (RetLim 100 w) := by
  have X := ((Blk.new w 24 [.int .i64 x0, .int .i64 x1, .int .i64 x2, .int .i64 x3]).alloc (.cells #[.string ⟨#[]⟩, .string ⟨#[]⟩] 23)).alloc (.cells #[.string ⟨#[]⟩, .string ⟨#[]⟩] 64)
  have Z := (Blk.new2 w (.cells #[.int .i64 x0, .int .i64 x1, .int .i64 x2, .int .i64 x3] 24) 23 [.string ⟨#[]⟩, .string ⟨#[]⟩]).alloc (.cells #[.string ⟨#[]⟩, .string ⟨#[]⟩] 64)
  have O := Blk.new3 w (.cells #[.int .i64 x0, .int .i64 x1, .int .i64 x2, .int .i64 x3] 24) (.cells #[.string ⟨#[]⟩, .string ⟨#[]⟩] 23) 64 [.string ⟨#[]⟩, .string ⟨#[]⟩]
  have hB := below_up (below_up (below1 w (.cells #[.int .i64 x0, .int .i64 x1, .int .i64 x2, .int .i64 x3] 24)) (below1 _ (.cells #[.string ⟨#[]⟩, .string ⟨#[]⟩] 23))) (below1 _ (.cells #[.string ⟨#[]⟩, .string ⟨#[]⟩] 64))
  go_enter Tryz.func12, Tryz.ntmps12
  go_wp2
  go_loopg [4] 2 (fun kx s4 wr => ∃ i : Nat, s4 = .int .i64 i ∧ i ≤ 2 ∧ 2 ≤ kx + i ∧ Below w.heap.size w wr ∧ Blk wr w.heap.size 24 [.int .i64 x0, .int .i64 x1, .int .i64 x2, .int .i64 x3] ∧ Blk wr (w.heap.size + 1) 23 [.string ⟨#[]⟩, .string ⟨#[]⟩] ∧
    ∃ t0 t1 : ByteArray, Blk wr (w.heap.size + 1 + 1) 64 [.string t0, .string t1] ∧ Hid (1 ≤ i → PosT t0) ∧ Hid (2 ≤ i → PosT t1))
  case atStart => exact ⟨0, rfl, by omega, by omega, hB, X, Z, ⟨#[]⟩, ⟨#[]⟩, O, Lib.hid (fun h => absurd h (by omega)), Lib.hid (fun h => absurd h (by omega))⟩
  case round =>
    clear X Z O hB
    obtain ⟨i, rfl, hi, hkx, hB, X, Z, t0, t1, O, P0, P1⟩ := hrel
    by_cases hg : i < 2
    · obtain rfl | rfl : i = 0 ∨ i = 1 := by omega
      · obtain ⟨wo, rfl⟩ : ∃ wo : World, wo = wr := ⟨_, rfl⟩
        have c0 := X.cell 0 (v := .int .i64 x0) rfl
        have c1 := X.cell 1 (v := .int .i64 x1) rfl
        go_wp2_with (first
          | (go_at_call 46; (with_reducible refine (tpick_any x1 100 hb0 hb1 (by decide) (by decide) _).mono ?_); rintro e v' ⟨n, hn0, hn1, rfl, rfl⟩)
          | (go_at_call 46; (with_reducible refine (tpick_any x0 1000000007 ha0 ha1 (by decide) (by decide) _).mono ?_); rintro e v' ⟨c, hc0, hc1, rfl, rfl⟩))
        go_loopg [6, 7] (n.toNat + 1) (fun ky s6 s7 wt => ∃ (t : ByteArray) (y : Int), s6 = .string t ∧ s7 = .int .i64 y ∧ 0 ≤ y ∧ y ≤ 2147483647 ∧ (t.size : Int) ≤ 1 + n ∧ n.toNat + 1 ≤ ky + t.size ∧ Hid (Dgs t) ∧ Below wo.heap.size wo wt)
        case atStart => exact ⟨⟨#[]⟩, c, rfl, rfl, hc0, by omega, by show (0 : Int) ≤ _; omega, by show _ ≤ _ + 0; omega, Lib.hid dgs_nil, Below.refl _ _⟩
        case round =>
          obtain ⟨t, y, rfl, rfl, hy0, hy1, hts, hky, hdt, hbt⟩ := hrel
          by_cases hlt : (t.size : Int) < 1 + n
          · have BS := byte_str ((y * 48271 + 11) % 2147483647 / 65536 % 10) (by omega) (by omega) wr
            have hlt2 : ¬ 9223372036854775807 < t.size + 1 := by omega
            go_wp2
            go_roundg (n.toNat + 1 - (t.size + 1))
            case measure => omega
            case rel => exact ⟨_, _, rfl, rfl, by omega, by omega, by rw [snoc_size]; omega, by rw [snoc_size]; omega, Lib.hid (dgs_snoc hdt.out (by omega) (by omega)), hbt.alloc (by have := hbt.size; omega) _⟩
          · have hsz1 : 1 ≤ t.size := by omega
            have hsz2 : t.size ≤ 100 := by omega
            go_wp2
            clear hlt hky hts
            go_loopg [6] t.size (fun kz s6 wt => ∃ u : ByteArray, s6 = .string u ∧ 1 ≤ u.size ∧ u.size ≤ 100 ∧ u.size ≤ kz ∧ Hid (Dgs u) ∧ Below wo.heap.size wo wt)
            case atStart => exact ⟨t, rfl, hsz1, hsz2, Nat.le_refl _, hdt, hbt⟩
            case round =>
              clear hsz1 hsz2 hdt hbt hy0 hy1
              obtain ⟨u, rfl, hu1, hu2, hku, hdu, hbu⟩ := hrel
              have hpu := Lib.hid (pos_of hdu.out hu1 hu2)
              have X2 := X.below hbu
              have Z2 := Z.below hbu
              have O2 := O.below hbu
              have o0 := O2.cell 0 (v := .string t0) rfl
              have g0 := O2.frozen 0
              have O3 := O2.set 0 (.string u)
              by_cases h1 : 1 < u.size
              · have h1i : (1 : Int) < (u.size : Int) := by omega
                by_cases h48 : (u[0]'(by omega)).toNat = 48
                · have h48b : (((u[0]'(by omega)).toNat : Int) == 48) = true := beq_iff_eq.2 (by omega)
                  clear h48
                  go_wp2
                  go_roundg (u.size - 1)
                  case measure => omega
                  case rel => exact ⟨_, rfl, by rw [ByteArray.size_extract]; omega, by rw [ByteArray.size_extract]; omega, by rw [ByteArray.size_extract]; omega, Lib.hid (dgs_tail hdu.out), hbu⟩
                · have h48b : (((u[0]'(by omega)).toNat : Int) == 48) = false := beq_eq_false_iff_ne.2 (by omega)
                  have hP : PosT u := hpu.out (.inr (head_no48 h48))
                  clear h48
                  go_wp2
                  go_roundg (2 - (0 + 1))
                  case measure => omega
                  case rel => exact ⟨1, rfl, by omega, by omega, (below_up hB hbu).setCell (by dsimp; omega) _, X2.other (by omega) _ _, Z2.other (by omega) _ _, u, t1, O3, Lib.hid (fun _ => hP), Lib.hid (fun h => absurd h (by omega))⟩
              · have hP : PosT u := hpu.out (.inl (by omega))
                have h1i : ¬ (1 : Int) < (u.size : Int) := by omega
                go_wp2
                go_roundg (2 - (0 + 1))
                case measure => omega
                case rel => exact ⟨1, rfl, by omega, by omega, (below_up hB hbu).setCell (by dsimp; omega) _, X2.other (by omega) _ _, Z2.other (by omega) _ _, u, t1, O3, Lib.hid (fun _ => hP), Lib.hid (fun h => absurd h (by omega))⟩
      · obtain ⟨wo, rfl⟩ : ∃ wo : World, wo = wr := ⟨_, rfl⟩
        have c0 := X.cell 2 (v := .int .i64 x2) rfl
        have c1 := X.cell 3 (v := .int .i64 x3) rfl
        go_wp2_with (first
          | (go_at_call 46; (with_reducible refine (tpick_any x3 100 hd0 hd1 (by decide) (by decide) _).mono ?_); rintro e v' ⟨n, hn0, hn1, rfl, rfl⟩)
          | (go_at_call 46; (with_reducible refine (tpick_any x2 1000000007 hc0 hc1 (by decide) (by decide) _).mono ?_); rintro e v' ⟨c, hc0, hc1, rfl, rfl⟩))
        go_loopg [6, 7] (n.toNat + 1) (fun ky s6 s7 wt => ∃ (t : ByteArray) (y : Int), s6 = .string t ∧ s7 = .int .i64 y ∧ 0 ≤ y ∧ y ≤ 2147483647 ∧ (t.size : Int) ≤ 1 + n ∧ n.toNat + 1 ≤ ky + t.size ∧ Hid (Dgs t) ∧ Below wo.heap.size wo wt)
        case atStart => exact ⟨⟨#[]⟩, c, rfl, rfl, hc0, by omega, by show (0 : Int) ≤ _; omega, by show _ ≤ _ + 0; omega, Lib.hid dgs_nil, Below.refl _ _⟩
        case round =>
          obtain ⟨t, y, rfl, rfl, hy0, hy1, hts, hky, hdt, hbt⟩ := hrel
          by_cases hlt : (t.size : Int) < 1 + n
          · have BS := byte_str ((y * 48271 + 11) % 2147483647 / 65536 % 10) (by omega) (by omega) wr
            have hlt2 : ¬ 9223372036854775807 < t.size + 1 := by omega
            go_wp2
            go_roundg (n.toNat + 1 - (t.size + 1))
            case measure => omega
            case rel => exact ⟨_, _, rfl, rfl, by omega, by omega, by rw [snoc_size]; omega, by rw [snoc_size]; omega, Lib.hid (dgs_snoc hdt.out (by omega) (by omega)), hbt.alloc (by have := hbt.size; omega) _⟩
          · have hsz1 : 1 ≤ t.size := by omega
            have hsz2 : t.size ≤ 100 := by omega
            go_wp2
            clear hlt hky hts
            go_loopg [6] t.size (fun kz s6 wt => ∃ u : ByteArray, s6 = .string u ∧ 1 ≤ u.size ∧ u.size ≤ 100 ∧ u.size ≤ kz ∧ Hid (Dgs u) ∧ Below wo.heap.size wo wt)
            case atStart => exact ⟨t, rfl, hsz1, hsz2, Nat.le_refl _, hdt, hbt⟩
            case round =>
              clear hsz1 hsz2 hdt hbt hy0 hy1
              obtain ⟨u, rfl, hu1, hu2, hku, hdu, hbu⟩ := hrel
              have hpu := Lib.hid (pos_of hdu.out hu1 hu2)
              have X2 := X.below hbu
              have Z2 := Z.below hbu
              have O2 := O.below hbu
              have o0 := O2.cell 1 (v := .string t1) rfl
              have g0 := O2.frozen 1
              have O3 := O2.set 1 (.string u)
              by_cases h1 : 1 < u.size
              · have h1i : (1 : Int) < (u.size : Int) := by omega
                by_cases h48 : (u[0]'(by omega)).toNat = 48
                · have h48b : (((u[0]'(by omega)).toNat : Int) == 48) = true := beq_iff_eq.2 (by omega)
                  clear h48
                  go_wp2
                  go_roundg (u.size - 1)
                  case measure => omega
                  case rel => exact ⟨_, rfl, by rw [ByteArray.size_extract]; omega, by rw [ByteArray.size_extract]; omega, by rw [ByteArray.size_extract]; omega, Lib.hid (dgs_tail hdu.out), hbu⟩
                · have h48b : (((u[0]'(by omega)).toNat : Int) == 48) = false := beq_eq_false_iff_ne.2 (by omega)
                  have hP : PosT u := hpu.out (.inr (head_no48 h48))
                  clear h48
                  go_wp2
                  go_roundg (2 - (1 + 1))
                  case measure => omega
                  case rel => exact ⟨2, rfl, by omega, by omega, (below_up hB hbu).setCell (by dsimp; omega) _, X2.other (by omega) _ _, Z2.other (by omega) _ _, t0, u, O3, Lib.hid (fun _ => P0.out (by omega)), Lib.hid (fun _ => hP)⟩
              · have hP : PosT u := hpu.out (.inl (by omega))
                have h1i : ¬ (1 : Int) < (u.size : Int) := by omega
                go_wp2
                go_roundg (2 - (1 + 1))
                case measure => omega
                case rel => exact ⟨2, rfl, by omega, by omega, (below_up hB hbu).setCell (by dsimp; omega) _, X2.other (by omega) _ _, Z2.other (by omega) _ _, t0, u, O3, Lib.hid (fun _ => P0.out (by omega)), Lib.hid (fun _ => hP)⟩
    · obtain rfl : i = 2 := by omega
      obtain ⟨z0, hz0, hp0, hs0⟩ := P0.out (by omega)
      obtain ⟨z1, hz1, hp1, hs1⟩ := P1.out (by omega)
      have c0 := X.cell 0 (v := .int .i64 x0) rfl
      have o0 := O.cell 0 (v := .string t0) rfl
      have o1 := O.cell 1 (v := .string t1) rfl
      have g0 := O.frozen 0
      have g1 := O.frozen 1
      have hts : ¬ 9223372036854775807 < 1 + t0.size := by have := hz0.size; omega
      clear P0 P1 X
      by_cases hd : z1 = 0
      · obtain rfl : t1 = ⟨#[48]⟩ := (pos_zero hz1).2 hd
        by_cases hn : z0 = 0
        · obtain rfl : t0 = ⟨#[48]⟩ := (pos_zero hz0).2 hn
          have MB := Lib.hid (fun w => tmake_lim hz0 is_seven hs0 (by decide) (by omega) w)
          go_wp2_with (first
            | (go_at_call 46; (with_reducible refine (tpick_any x0 2 ha0 ha1 (by decide) (by decide) _).mono ?_); rintro e v' ⟨k, hk0, hk1, rfl, rfl⟩)
            | (go_at_call 39; (with_reducible refine (MB.out _).mono ?_); rintro e wN ⟨q, hq, rfl, hb⟩; have hBN := below_up (by first | exact hB | exact hB.setCell (by dsimp; omega) _ | exact (hB.setCell (by dsimp; omega) _).setCell (by dsimp; omega) _) hb; have ZN := (by first | exact Z.below hb | exact (Z.other (by omega) _ _).below hb | exact ((Z.other (by omega) _ _).other (by omega) _ _).below hb : Blk wN (w.heap.size + 1) 23 [.string ⟨#[]⟩, .string ⟨#[]⟩]); replace ZN := ZN.alloc (.cells #[.string (numT (some q)), .string (denT (some q))] 23); have e0 := ZN.cell 0 (v := .string ⟨#[]⟩) rfl; have e1 := ZN.cell 1 (v := .string ⟨#[]⟩) rfl; have f0 := ZN.frozen 0; have f1 := ZN.frozen 1))
          all_goals
            have ZF := (ZN.set 0 (.string (numT (some q)))).set 1 (.string (denT (some q)))
            have e0 := ZF.cell 0 (v := .string (numT (some q))) rfl
            have e1 := ZF.cell 1 (v := .string (denT (some q))) rfl
            refine bodyPost_ret (v := .agg #[.string (numT (some q)), .string (denT (some q))]) (by simp [results, Tryz.results12, go_sem, e0, e1]) rfl ⟨q, hq, rfl, ?_⟩
            exact ((hBN.alloc (by have := hBN.size; omega) _).setCell (by dsimp; omega) _).setCell (by dsimp; omega) _
        · have h0n : (t0.toList == [48]) = false := hz0.differ0 hn
          have MB := Lib.hid (fun w => tmake_lim hz0 is_seven hs0 (by decide) (by omega) w)
          have MA := Lib.hid (fun w => tmake_lim (is_minus hz0 (by omega)) is_seven (by rw [Int.natAbs_neg]; exact hs0) (by decide) (by omega) w)
          go_wp2_with (first
            | (go_at_call 46; (with_reducible refine (tpick_any x0 2 ha0 ha1 (by decide) (by decide) _).mono ?_); rintro e v' ⟨k, hk0, hk1, rfl, rfl⟩)
            | (go_at_call 39; (with_reducible refine (MB.out _).mono ?_); rintro e wN ⟨q, hq, rfl, hb⟩; have hBN := below_up (by first | exact hB | exact hB.setCell (by dsimp; omega) _ | exact (hB.setCell (by dsimp; omega) _).setCell (by dsimp; omega) _) hb; have ZN := (by first | exact Z.below hb | exact (Z.other (by omega) _ _).below hb | exact ((Z.other (by omega) _ _).other (by omega) _ _).below hb : Blk wN (w.heap.size + 1) 23 [.string ⟨#[]⟩, .string ⟨#[]⟩]); replace ZN := ZN.alloc (.cells #[.string (numT (some q)), .string (denT (some q))] 23); have e0 := ZN.cell 0 (v := .string ⟨#[]⟩) rfl; have e1 := ZN.cell 1 (v := .string ⟨#[]⟩) rfl; have f0 := ZN.frozen 0; have f1 := ZN.frozen 1)
            | (go_at_call 39; (with_reducible refine (MA.out _).mono ?_); rintro e wN ⟨q, hq, rfl, hb⟩; have hBN := below_up (by first | exact hB | exact hB.setCell (by dsimp; omega) _ | exact (hB.setCell (by dsimp; omega) _).setCell (by dsimp; omega) _) hb; have ZN := (by first | exact Z.below hb | exact (Z.other (by omega) _ _).below hb | exact ((Z.other (by omega) _ _).other (by omega) _ _).below hb : Blk wN (w.heap.size + 1) 23 [.string ⟨#[]⟩, .string ⟨#[]⟩]); replace ZN := ZN.alloc (.cells #[.string (numT (some q)), .string (denT (some q))] 23); have e0 := ZN.cell 0 (v := .string ⟨#[]⟩) rfl; have e1 := ZN.cell 1 (v := .string ⟨#[]⟩) rfl; have f0 := ZN.frozen 0; have f1 := ZN.frozen 1))
          all_goals
            have ZF := (ZN.set 0 (.string (numT (some q)))).set 1 (.string (denT (some q)))
            have e0 := ZF.cell 0 (v := .string (numT (some q))) rfl
            have e1 := ZF.cell 1 (v := .string (denT (some q))) rfl
            refine bodyPost_ret (v := .agg #[.string (numT (some q)), .string (denT (some q))]) (by simp [results, Tryz.results12, go_sem, e0, e1]) rfl ⟨q, hq, rfl, ?_⟩
            exact ((hBN.alloc (by have := hBN.size; omega) _).setCell (by dsimp; omega) _).setCell (by dsimp; omega) _
      · have h1n : (t1.toList == [48]) = false := hz1.differ0 hd
        by_cases hn : z0 = 0
        · obtain rfl : t0 = ⟨#[48]⟩ := (pos_zero hz0).2 hn
          have MB := Lib.hid (fun w => tmake_lim hz0 hz1 hs0 hs1 (by omega) w)
          go_wp2_with (first
            | (go_at_call 46; (with_reducible refine (tpick_any x0 2 ha0 ha1 (by decide) (by decide) _).mono ?_); rintro e v' ⟨k, hk0, hk1, rfl, rfl⟩)
            | (go_at_call 39; (with_reducible refine (MB.out _).mono ?_); rintro e wN ⟨q, hq, rfl, hb⟩; have hBN := below_up (by first | exact hB | exact hB.setCell (by dsimp; omega) _ | exact (hB.setCell (by dsimp; omega) _).setCell (by dsimp; omega) _) hb; have ZN := (by first | exact Z.below hb | exact (Z.other (by omega) _ _).below hb | exact ((Z.other (by omega) _ _).other (by omega) _ _).below hb : Blk wN (w.heap.size + 1) 23 [.string ⟨#[]⟩, .string ⟨#[]⟩]); replace ZN := ZN.alloc (.cells #[.string (numT (some q)), .string (denT (some q))] 23); have e0 := ZN.cell 0 (v := .string ⟨#[]⟩) rfl; have e1 := ZN.cell 1 (v := .string ⟨#[]⟩) rfl; have f0 := ZN.frozen 0; have f1 := ZN.frozen 1))
          all_goals
            have ZF := (ZN.set 0 (.string (numT (some q)))).set 1 (.string (denT (some q)))
            have e0 := ZF.cell 0 (v := .string (numT (some q))) rfl
            have e1 := ZF.cell 1 (v := .string (denT (some q))) rfl
            refine bodyPost_ret (v := .agg #[.string (numT (some q)), .string (denT (some q))]) (by simp [results, Tryz.results12, go_sem, e0, e1]) rfl ⟨q, hq, rfl, ?_⟩
            exact ((hBN.alloc (by have := hBN.size; omega) _).setCell (by dsimp; omega) _).setCell (by dsimp; omega) _
        · have h0n : (t0.toList == [48]) = false := hz0.differ0 hn
          have MB := Lib.hid (fun w => tmake_lim hz0 hz1 hs0 hs1 (by omega) w)
          have MA := Lib.hid (fun w => tmake_lim (is_minus hz0 (by omega)) hz1 (by rw [Int.natAbs_neg]; exact hs0) hs1 (by omega) w)
          go_wp2_with (first
            | (go_at_call 46; (with_reducible refine (tpick_any x0 2 ha0 ha1 (by decide) (by decide) _).mono ?_); rintro e v' ⟨k, hk0, hk1, rfl, rfl⟩)
            | (go_at_call 39; (with_reducible refine (MB.out _).mono ?_); rintro e wN ⟨q, hq, rfl, hb⟩; have hBN := below_up (by first | exact hB | exact hB.setCell (by dsimp; omega) _ | exact (hB.setCell (by dsimp; omega) _).setCell (by dsimp; omega) _) hb; have ZN := (by first | exact Z.below hb | exact (Z.other (by omega) _ _).below hb | exact ((Z.other (by omega) _ _).other (by omega) _ _).below hb : Blk wN (w.heap.size + 1) 23 [.string ⟨#[]⟩, .string ⟨#[]⟩]); replace ZN := ZN.alloc (.cells #[.string (numT (some q)), .string (denT (some q))] 23); have e0 := ZN.cell 0 (v := .string ⟨#[]⟩) rfl; have e1 := ZN.cell 1 (v := .string ⟨#[]⟩) rfl; have f0 := ZN.frozen 0; have f1 := ZN.frozen 1)
            | (go_at_call 39; (with_reducible refine (MA.out _).mono ?_); rintro e wN ⟨q, hq, rfl, hb⟩; have hBN := below_up (by first | exact hB | exact hB.setCell (by dsimp; omega) _ | exact (hB.setCell (by dsimp; omega) _).setCell (by dsimp; omega) _) hb; have ZN := (by first | exact Z.below hb | exact (Z.other (by omega) _ _).below hb | exact ((Z.other (by omega) _ _).other (by omega) _ _).below hb : Blk wN (w.heap.size + 1) 23 [.string ⟨#[]⟩, .string ⟨#[]⟩]); replace ZN := ZN.alloc (.cells #[.string (numT (some q)), .string (denT (some q))] 23); have e0 := ZN.cell 0 (v := .string ⟨#[]⟩) rfl; have e1 := ZN.cell 1 (v := .string ⟨#[]⟩) rfl; have f0 := ZN.frozen 0; have f1 := ZN.frozen 1))
          all_goals
            have ZF := (ZN.set 0 (.string (numT (some q)))).set 1 (.string (denT (some q)))
            have e0 := ZF.cell 0 (v := .string (numT (some q))) rfl
            have e1 := ZF.cell 1 (v := .string (denT (some q))) rfl
            refine bodyPost_ret (v := .agg #[.string (numT (some q)), .string (denT (some q))]) (by simp [results, Tryz.results12, go_sem, e0, e1]) rfl ⟨q, hq, rfl, ?_⟩
            exact ((hBN.alloc (by have := hBN.size; omega) _).setCell (by dsimp; omega) _).setCell (by dsimp; omega) _

end Go.Proofs.YtnioinccflmdjaaGreatDoor
