/- The walk of package integer's Root: Newton's steps. Conditions: the tables that strconv.Itoa reads. -/
import Derived.Test.YtcpkejpdpohfeaaGreatDoorI21
namespace Go.Proofs.YtcpkejpdpohfeaaGreatDoor
open Go.RowKit Num
open Go.Shelf

def isq (n r : Nat) : Prop := r * r ≤ n ∧ n < (r + 1) * (r + 1)
theorem isq_unique {n r s : Nat} (h : isq n r) (k : isq n s) : r = s := by
  rcases Nat.lt_trichotomy r s with c | c | c
  · have := Nat.mul_le_mul c c
    have h1 := h.2
    have h2 := k.1
    exact absurd (Nat.lt_of_lt_of_le h1 (Nat.le_trans this h2)) (Nat.lt_irrefl _)
  · exact c
  · have := Nat.mul_le_mul c c
    have h1 := k.2
    have h2 := h.1
    exact absurd (Nat.lt_of_lt_of_le h1 (Nat.le_trans this h2)) (Nat.lt_irrefl _)
theorem sq_ge (r s : Nat) : 4 * (r * s) ≤ (r + s) * (r + s) := by
  rcases Nat.le_total r s with h | h
  · obtain ⟨d, rfl⟩ := Nat.exists_eq_add_of_le h
    have e : (r + (r + d)) * (r + (r + d)) = 4 * (r * (r + d)) + d * d := by
      simp only [Nat.mul_add, Nat.add_mul, Nat.mul_comm d r]
      omega
    omega
  · obtain ⟨d, rfl⟩ := Nat.exists_eq_add_of_le h
    have e : (s + d + s) * (s + d + s) = 4 * ((s + d) * s) + d * d := by
      simp only [Nat.mul_add, Nat.add_mul, Nat.mul_comm d s]
      omega
    omega
theorem newton_above (n r : Nat) (hr : 0 < r) : n < ((r + n / r) / 2 + 1) * ((r + n / r) / 2 + 1) := by
  have h1 : n < r * (n / r + 1) := Nat.lt_mul_div_succ n hr
  have h2 := sq_ge r (n / r + 1)
  have h3 : r + (n / r + 1) ≤ 2 * ((r + n / r) / 2 + 1) := by omega
  have h4 := Nat.mul_le_mul h3 h3
  generalize (r + n / r) / 2 + 1 = t at *
  have h5 : 2 * t * (2 * t) = 4 * (t * t) := by
    rw [Nat.mul_assoc, Nat.mul_left_comm t 2 t, ← Nat.mul_assoc]
  omega
theorem newton_stop {n r : Nat} (h : r ≤ (r + n / r) / 2) : r * r ≤ n := by
  have h1 : r ≤ n / r := by omega
  have h2 := Nat.mul_le_mul_right r h1
  exact Nat.le_trans h2 (Nat.div_mul_le_self n r)
theorem newton_pos {n t : Nat} (hn : 0 < n) (h : n < (t + 1) * (t + 1)) : 0 < t := by
  rcases Nat.eq_zero_or_pos t with h0 | h0
  · subst h0; omega
  · exact h0

theorem dg_pow : ∀ k, dg 10000 (10000 ^ k) = List.replicate k 0 ++ [1]
  | 0 => dg_one
  | k + 1 => by
    rw [Nat.pow_succ, dg_shift (Nat.pow_pos (by omega)), dg_pow k]
    rfl
theorem root_start (n : Nat) : n < (10000 ^ (((dg 10000 n).length + 1) / 2) + 1) * (10000 ^ (((dg 10000 n).length + 1) / 2) + 1) := by
  have h := dg_len_lt (B := 10000) (by omega) n
  have h2 : 10000 ^ (dg 10000 n).length ≤ 10000 ^ (((dg 10000 n).length + 1) / 2 + ((dg 10000 n).length + 1) / 2) := Nat.pow_le_pow_right (by omega) (by omega)
  rw [Nat.pow_add] at h2
  have h3 := Nat.mul_le_mul (Nat.le_succ (10000 ^ (((dg 10000 n).length + 1) / 2))) (Nat.le_succ (10000 ^ (((dg 10000 n).length + 1) / 2)))
  exact Nat.lt_of_lt_of_le h (Nat.le_trans h2 h3)

/-- 'make([]int, n)'. -/
theorem make_ints {w : World} {ops : Array Oper} {rest : List Oper} {o : Oper} {a : Act} {Q : Exit → Act → World → Prop} (hg : o.guard = none) (l c : Operand)
    (hop : o.op = Op.makeSlice 48 l c) (L : Nat) (hl : a.eval l = .int .i64 L) (hc : a.eval c = .int .i64 L) (hL : L ≤ 900000)
    (hK : ∀ w', w'.ownsRow w.heap.size 3 1 (.slice (some ⟨w.heap.size, 0, none⟩) L L) (List.replicate L (0 : Int)).length ((List.replicate L (0 : Int)).map (Value.int .i64)) → Below w.heap.size w w' → wpList Tryz.prog ops Q rest (a.put o.dst (.slice (some ⟨w.heap.size, 0, none⟩) L L)) w') :
    wpList Tryz.prog ops Q (o :: rest) a w := by
  obtain ⟨i0, hi, hz0, hz1, hz2⟩ := info_parts Tryz.info3
  refine wpList_plain hg fun K hK' => ?_
  obtain ⟨w', hrun, r1, r2⟩ := run_make_full (P := Tryz.prog) w w.heap.size 48 3 i0 (.int .i64 0) 1 Tryz.underlying48 hi hz0 hz1 .i64 .i64 L (by rw [hz2]; omega) (by unfold maxLen; omega) (Nat.le_refl _)
  unfold Oper.wp
  simp [execOp, hop, hl, hc, hrun, Result.andThen]
  refine hK' _ _ (hK w' ?_ ((Below.refl _ _).grown r2 (Nat.le_refl _) (fun k e => by cases e)))
  have e : (madeCells (Value.int .i64 0).cells (L * 1)).toList = (List.replicate L (0 : Int)).map (Value.int .i64) := by
    rw [Nat.mul_one, List.map_replicate]
    exact toList_madeCells_one _ _
  rw [List.length_replicate, ← e]; exact r1

theorem lit_rd (w : World) (d : Nat) (hd : 0 < d) (h9 : d ≤ 9999) : Rd (w.alloc (.cells #[.int .i64 d] 3)) (.slice (some ⟨w.heap.size, 0, none⟩) 1 1) (dg 10000 d) := by
  have e : dg 10000 d = [(d : Int)] := by rw [dg_pos (by omega) hd, Nat.div_eq_of_lt (by omega), Nat.mod_eq_of_lt (by omega), dg_zero]
  rw [e]
  refine ⟨some ⟨w.heap.size, 0, none⟩, 1, rfl, ⟨Nat.le_refl _, fun e => by cases e⟩, by simp, fun _ => ⟨_, 0, rfl, fun j hj => ?_⟩⟩
  have : j = 0 := by simpa using hj
  subst this
  exact cell_new1 _ _ _
theorem lit_two (w : World) : Rd (w.alloc (.cells #[.int .i64 2] 3)) (.slice (some ⟨w.heap.size, 0, none⟩) 1 1) (dg 10000 2) := lit_rd w 2 (by omega) (by omega)
def RetRoot (w : World) (n : Nat) (e : Ending) (w' : World) : Prop := ∃ r : Nat, isq n r ∧ e = .returned (.tuple #[.string (tx r), .int .i64 0]) ∧ Below w.heap.size w w'

theorem rd_zero : rdI ⟨#[48]⟩ = some 0 := by
  have e : (⟨#[48]⟩ : ByteArray) = tx 0 := by
    unfold tx
    rw [show (0 : Int) = ((0 : Nat) : Int) from rfl, itoa_pos, dec_small (by omega)]
    rfl
  rw [e]
  exact rdI_tx (by decide)

set_option maxHeartbeats 2000000 in
theorem root_any (a : ByteArray) (x : Int) (ha : rdI a = some x) (hx0 : 0 ≤ x) (w : World) (hL : Laid w) : Calls Tryz.prog 21 #[.string a] w (RetRoot w x.toNat) := by
  have HL := Lib.hid hL
  clear hL
  have hx := rd_small ha
  have BO := Lib.hid (both_ok ha rd_zero)
  have en : decide (x < 0) = false := by simp; omega
  have ex : x.toNat = x.natAbs := by omega
  rw [en] at BO
  rw [ex]
  clear ha en ex hx0
  generalize x.natAbs = n at *
  go_enter Tryz.func21, Tryz.ntmps21
  have hl50 : (dg 10000 n).length ≤ 50 := dg_len (by omega) 50 n (Nat.lt_of_lt_of_le hx (by decide))
  have hw1 : IntKind.i64.wrap (((dg 10000 n).length : Int) + 1) = ((dg 10000 n).length : Int) + 1 := IntWalk.i64_in _ (by omega)
  have hq1 : Int.tdiv (((dg 10000 n).length : Int) + 1) 2 = ((((dg 10000 n).length + 1) / 2 : Nat) : Int) := by
    rw [Int.tdiv_eq_ediv_of_nonneg (by omega)]; omega
  have hw2 : IntKind.i64.wrap ((((dg 10000 n).length + 1) / 2 : Nat) : Int) = ((((dg 10000 n).length + 1) / 2 : Nat) : Int) := IntWalk.i64_in _ (by omega)
  have RS := Lib.hid (root_start n)
  have hk26 : ((dg 10000 n).length + 1) / 2 ≤ 26 := by omega
  generalize ((dg 10000 n).length + 1) / 2 = k at *
  have hkl : (List.replicate k (0 : Int)).length ≤ 1000000 := by rw [List.length_replicate]; omega
  go_wp2_with (first
    | (go_at_call 38; (with_reducible refine (BO.out _).mono ?_); rintro e W1 ⟨A1, A2, c1, c2, rfl, hr1, -, hb1⟩)
    | (at_make; refine make_ints rfl _ _ rfl k rfl rfl (by omega) ?_; intro w2 hown hb2; have hb2' := hb2; simp only [World.size_alloc] at hown hb2)
    | (at_builtin; refine app_one rfl (.tmp 29) (.tmp 30) rfl _ _ (List.replicate k 0) 1 rfl hown rfl hkl (by have h9 := hb2'.size; simp only [World.size_alloc] at h9; exact h9) ?_; intro v' w3 hown3 hb3))
  have sb2 : ∀ o, SBox ((W1.alloc (.cells #[.bool false, .slice A1 (dg 10000 n).length c1] 50)).alloc o) W1.heap.size false (.slice A1 (dg 10000 n).length c1) := fun o => ((below1 _ _).block _ (by simp)).trans (World.alloc_heap_new W1 _)
  have hB3 := hb3 _ _ hb2 (Nat.le_refl _)
  have sb3 := (sb2 _).below hB3 (by omega)
  have hr3 := (hr1.below (below2 W1 (.cells #[.bool false, .slice A1 (dg 10000 n).length c1] 50) (.cells #[.bool false, .slice A2 (dg 10000 0).length c2] 50))).below (by simpa using hB3)
  have hbw3 : Below w.heap.size w w3 := below_up (below_up hb1 (below2 W1 (.cells #[.bool false, .slice A1 (dg 10000 n).length c1] 50) (.cells #[.bool false, .slice A2 (dg 10000 0).length c2] 50))) (by simpa using hB3)
  have hR := Rd.own hown3 (by simp; omega)
  rw [← dg_pow k] at hR
  obtain ⟨A, c, rfl, -⟩ := id hR
  have HR := Lib.hid hR
  have HR3 := Lib.hid hr3
  have HSB := Lib.hid sb3
  have HBW := Lib.hid hbw3
  have hk0 : 0 < 10000 ^ k := Nat.pow_pos (by omega)
  have hk1 : 10000 ^ k ≤ 10000 ^ 26 := Nat.pow_le_pow_right (by omega) hk26
  clear hown hown3 hb2 hb3 hb2' hb1 hr1 sb2 hB3 sb3 hr3 hbw3 hR hkl hq1 hw1 hw2 hk26
  generalize 10000 ^ k = r0 at *
  go_loopg [7] r0 (fun kx s7 wr => ∃ (r : Nat) (A : Option Addr) (c : Nat), s7 = .slice A (dg 10000 r).length c ∧ Hid (Rd wr (.slice A (dg 10000 r).length c) (dg 10000 r)) ∧ 0 < r ∧ r ≤ kx ∧ r ≤ 10000 ^ 26 ∧ Hid (n < (r + 1) * (r + 1)) ∧ Hid (Below w3.heap.size w3 wr))
  case atStart => exact ⟨r0, A, c, rfl, HR.out, hk0, Nat.le_refl _, hk1, RS.out, Below.refl _ _⟩
  case round =>
    obtain ⟨r, A', c', rfl, hR, hr0, hrk, hr26, hN, hnx⟩ := hrel
    have hsb := HSB.out.below hnx.out HSB.out.lt
    have hcx := hsb.cell1
    have HL1 := Lib.hid (HL.out.below (below_up HBW.out hnx.out))
    have HRN := Lib.hid (HR3.out.below hnx.out)
    have HBN := Lib.hid (below_up HBW.out hnx.out)
    clear hsb
    rcases Nat.eq_zero_or_pos n with h0 | h0
    · have hc : ¬ (0 : Int) < ((dg 10000 n).length : Int) := by rw [len_pos_iff]; omega
      have hz : Hid (isq n 0) := Lib.hid (by rw [h0]; exact ⟨Nat.le_refl _, by omega⟩)
      clear h0
      go_wp2
      go_ret2
      exact ⟨0, hz.out, by rw [show tx ((0 : Nat) : Int) = ⟨#[48]⟩ from (by unfold tx; rw [itoa_pos, dec_small (by omega)]; rfl)]; rfl, HBN.out⟩
    · have hc : (0 : Int) < ((dg 10000 n).length : Int) := by rw [len_pos_iff]; exact h0
      have hnb : n < big := Nat.lt_of_lt_of_le hx limbig
      have hr199 : r < 10000 ^ 199 := Nat.lt_of_le_of_lt hr26 (by decide)
      have hq : n / r ≤ n := Nat.div_le_self n r
      have h26 : (10000 : Nat) ^ 26 + 10 ^ 200 ≤ big := by unfold big; decide
      have hs : r + n / r < big := by omega
      have HNA := Lib.hid (newton_above n r hr0)
      have HNS := Lib.hid (newton_stop (n := n) (r := r))
      have HNP := Lib.hid (fun t => newton_pos (n := n) (t := t) h0)
      have OV1 := Lib.hid (over_any n r _ _ wr HRN.out hR.out hr0 hnb hr199)
      have OV2 := Lib.hid (fun v u w h1 h2 => over_any (r + n / r) 2 v u w h1 h2 (by omega) hs (by decide))
      clear hq h26 h0 hnb
      generalize n / r = q at *
      have HT := Lib.hid (rfl : (r + q) / 2 = (r + q) / 2)
      generalize (r + q) / 2 = t at *
      clear HT
      by_cases hge : r ≤ t
      · have hcm : (0 : Int) ≤ Lib.compareInt t r := by unfold Lib.compareInt; split <;> (try split) <;> omega
        have HIS : Hid (isq n r) := Lib.hid ⟨HNS.out hge, hN.out⟩
        have HTX := Lib.hid (fun w h1 h2 => text_tx (neg := false) (n := r) (z := (r : Int)) (A := A') (c := c') (by unfold sgn; simp) (by simp; exact Nat.lt_of_le_of_lt hr26 (by decide)) w h1 h2)
        clear hge HNS HNP HNA hrk hr26
        go_wp2_with (first
          | (go_at_call 42; (with_reducible refine OV1.out.mono ?_); rintro e W4 ⟨v, u, rfl, hq4, -, hb4⟩; obtain ⟨A4, c4, rfl, -⟩ := id hq4)
          | (go_at_call 43; (with_reducible refine (plus_any r q _ _ W4 (hR.out.below hb4) hq4 hs).mono ?_); rintro e W5 ⟨v, rfl, hq5, hb5⟩; obtain ⟨A5, c5, rfl, -⟩ := id hq5)
          | (go_at_call 42; (with_reducible refine (OV2.out _ _ _ (hq5.below (below1 _ _)) (lit_two W5)).mono ?_); rintro e W6 ⟨v, u, rfl, hq6, -, hb6⟩; obtain ⟨A6, c6, rfl, -⟩ := id hq6; have hbl6 := below_up (below_up hb4 hb5) (below_up (below1 W5 _) hb6))
          | (go_at_call 46; (with_reducible refine (compare_any t r _ _ W6 hq6 (hR.out.below hbl6)).mono ?_); rintro e W7 ⟨rfl, hb7⟩)
          | (go_at_call 40; (with_reducible refine (HTX.out W7 (hR.out.below (below_up hbl6 hb7)) (HL1.out.below (below_up hbl6 hb7))).mono ?_); rintro e W8 ⟨rfl, hb8⟩))
        go_ret2
        exact ⟨r, HIS.out, rfl, below_up HBN.out (below_up (below_up hbl6 hb7) hb8)⟩
      · have hcm : ¬ (0 : Int) ≤ Lib.compareInt t r := by unfold Lib.compareInt; rw [if_pos (by omega)]; omega
        have HTP := Lib.hid (HNP.out t HNA.out)
        clear HNS HNP
        go_wp2_with (first
          | (go_at_call 42; (with_reducible refine OV1.out.mono ?_); rintro e W4 ⟨v, u, rfl, hq4, -, hb4⟩; obtain ⟨A4, c4, rfl, -⟩ := id hq4)
          | (go_at_call 43; (with_reducible refine (plus_any r q _ _ W4 (hR.out.below hb4) hq4 hs).mono ?_); rintro e W5 ⟨v, rfl, hq5, hb5⟩; obtain ⟨A5, c5, rfl, -⟩ := id hq5)
          | (go_at_call 42; (with_reducible refine (OV2.out _ _ _ (hq5.below (below1 _ _)) (lit_two W5)).mono ?_); rintro e W6 ⟨v, u, rfl, hq6, -, hb6⟩; obtain ⟨A6, c6, rfl, -⟩ := id hq6; have hbl6 := below_up (below_up hb4 hb5) (below_up (below1 W5 _) hb6))
          | (go_at_call 46; (with_reducible refine (compare_any t r _ _ W6 hq6 (hR.out.below hbl6)).mono ?_); rintro e W7 ⟨rfl, hb7⟩))
        go_roundg t
        case measure => omega
        case rel => exact ⟨t, A6, c6, rfl, hq6.below hb7, HTP.out, Nat.le_refl _, by omega, HNA.out, below_up hnx.out (below_up hbl6 hb7)⟩

theorem root_no (a : ByteArray) (h : ∀ x, rdI a = some x → x < 0) (w : World) : Calls Tryz.prog 21 #[.string a] w fun e w' => e = .returned (.tuple #[.string ⟨#[]⟩, .int .i64 30]) ∧ Below w.heap.size w w' := by
  cases ha : rdI a with
  | none =>
    have BO := Lib.hid (both_no (b := ⟨#[48]⟩) (.inl ha))
    clear ha h
    go_enter Tryz.func21, Tryz.ntmps21
    go_wp2_with (go_at_call 38; (with_reducible refine (BO.out _).mono ?_); rintro e W1 ⟨rfl, hb1⟩)
    go_ret2
    exact ⟨rfl, below_up hb1 (below2 W1 _ _)⟩
  | some x =>
    have hx := h x ha
    have BO := Lib.hid (both_ok ha rd_zero)
    rw [show decide (x < 0) = true by simpa using hx] at BO
    clear ha h hx
    go_enter Tryz.func21, Tryz.ntmps21
    go_wp2_with (go_at_call 38; (with_reducible refine (BO.out _).mono ?_); rintro e W1 ⟨A1, A2, c1, c2, rfl, hr1, hr2, hb1⟩)
    go_ret2
    exact ⟨rfl, below_up hb1 (below2 W1 _ _)⟩

end Go.Proofs.YtcpkejpdpohfeaaGreatDoor
