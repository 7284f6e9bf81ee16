/- The walks of package integer's Gcd and ToInt. Conditions: the tables and the errors that package strconv reads. -/
import Derived.Test.YtcpkejpdpohfeaaGreatDoorI19
namespace Go.Proofs.YtcpkejpdpohfeaaGreatDoor
open Go.RowKit Num
open Go.Shelf

theorem len_pos_iff (n : Nat) : (0 : Int) < ((dg 10000 n).length : Int) ↔ 0 < n := by
  have h := dg_eq_nil (B := 10000) (n := n) (by omega)
  rcases Nat.eq_zero_or_pos n with h0 | h0
  · rw [h.2 h0]; simp; omega
  · have : dg 10000 n ≠ [] := fun e => by have := h.1 e; omega
    have := List.length_pos_iff.2 this
    omega
theorem lim199 : (10 : Nat) ^ 200 ≤ 10000 ^ 199 := by decide
theorem limbig : (10 : Nat) ^ 200 ≤ big := by unfold big; decide

set_option maxHeartbeats 1000000 in
theorem gcd_any (a b : ByteArray) (w : World) (hL : Laid w) : Calls Tryz.prog 20 #[.string a, .string b] w (RetP w (op2 (fun x y => outI (Int.gcd x y : Nat)) a b)) := by
  have HL := Lib.hid hL
  clear hL
  rcases cases2 a b with ⟨x, y, ha, hb⟩ | h
  · have BO := Lib.hid (both_ok ha hb)
    have hx := rd_small ha
    have hy := rd_small hb
    have EQ := Lib.hid (op2_ok (f := fun x y => outI (Int.gcd x y : Nat)) ha hb)
    have HG : Hid (Nat.gcd x.natAbs y.natAbs = Int.gcd x y) := Lib.hid rfl
    rw [EQ.out, ← HG.out]
    clear ha hb EQ HG
    go_enter Tryz.func20, Tryz.ntmps20
    generalize decide (x < 0) = n1 at *
    generalize decide (y < 0) = n2 at *
    generalize x.natAbs = m1 at *
    generalize y.natAbs = m2 at *
    have hmixed : Tryz.prog.follows .mixedOrders = true := by kernel_rfl
    have HG := Lib.hid (rfl : Nat.gcd m1 m2 = Nat.gcd m1 m2)
    generalize hG : Nat.gcd m1 m2 = G at *
    have HGG := Lib.hid hG
    clear hG HG
    go_wp2_with (go_at_call 38; (with_reducible refine (BO.out _).mono ?_); rintro e W1 ⟨A1, A2, c1, c2, rfl, hr1, hr2, hb1⟩)
    have hB2 : Below w.heap.size w ((W1.alloc (.cells #[.bool n1, .slice A1 (dg 10000 m1).length c1] 50)).alloc (.cells #[.bool n2, .slice A2 (dg 10000 m2).length c2] 50)) := below_up hb1 (below2 W1 _ _)
    obtain ⟨s1, s2⟩ := boxes2 W1 n1 n2 (.slice A1 (dg 10000 m1).length c1) (.slice A2 (dg 10000 m2).length c2)
    have HR1 := Lib.hid (hr1.below (below2 W1 (.cells #[.bool n1, .slice A1 (dg 10000 m1).length c1] 50) (.cells #[.bool n2, .slice A2 (dg 10000 m2).length c2] 50)))
    have HR2 := Lib.hid (hr2.below (below2 W1 (.cells #[.bool n1, .slice A1 (dg 10000 m1).length c1] 50) (.cells #[.bool n2, .slice A2 (dg 10000 m2).length c2] 50)))
    clear hr1 hr2
    generalize (W1.alloc (.cells #[.bool n1, .slice A1 (dg 10000 m1).length c1] 50)).alloc (.cells #[.bool n2, .slice A2 (dg 10000 m2).length c2] 50) = W2 at *
    have x1 := s1.cell1
    have y1 := s2.cell1
    go_region_held3 (fun w' => w'.cell? ⟨W1.heap.size, 1, none⟩ = some (.slice A1 (dg 10000 m1).length c1) ∧ w'.cell? ⟨W1.heap.size + 1, 1, none⟩ = some (.slice A2 (dg 10000 m2).length c2)) (go_keep) (fail)
    all_goals go_wp2
    clear x1 y1 s1 s2
    go_loopg [9, 10] m2 (fun kx s9 s10 wr => ∃ (p q : Nat) (A B : Option Addr) (c d : Nat), s9 = .slice A (dg 10000 p).length c ∧ s10 = .slice B (dg 10000 q).length d ∧ Hid (Rd wr (.slice A (dg 10000 p).length c) (dg 10000 p)) ∧ Hid (Rd wr (.slice B (dg 10000 q).length d) (dg 10000 q)) ∧
      p < 10 ^ 200 ∧ q < 10 ^ 200 ∧ Hid (Nat.gcd p q = G) ∧ q ≤ kx ∧ Below w.heap.size w wr)
    case atStart => exact ⟨m1, m2, A1, A2, c1, c2, rfl, rfl, HR1.out.below (Below.refl _ _).drew, HR2.out.below (Below.refl _ _).drew, hx, hy, HGG.out, Nat.le_refl _, hB2.drew⟩
    case round =>
      obtain ⟨p, q, A, B, c, d, rfl, rfl, hp, hq, hp2, hq2, hg, hk, hnx⟩ := hrel
      rcases Nat.eq_zero_or_pos q with h0 | h0
      · have hc : ¬ (0 : Int) < ((dg 10000 q).length : Int) := by rw [len_pos_iff]; omega
        have hpG : Hid (p = G) := Lib.hid (by have := hg.out; rw [h0, Nat.gcd_zero_right] at this; exact this)
        clear h0
        go_wp2_with (go_at_call 40; (with_reducible refine (text_any false p _ wr hp.out (HL.out.below hnx)).mono ?_); rintro e W4 ⟨rfl, hb4⟩)
        go_ret2
        exact ⟨by rw [← hpG.out]; rfl, below_up hnx hb4⟩
      · have hc : (0 : Int) < ((dg 10000 q).length : Int) := by rw [len_pos_iff]; exact h0
        have hgm : Hid (Nat.gcd q (p % q) = G) := Lib.hid (by rw [← hg.out, Nat.gcd_comm p q, Nat.gcd_rec q p, Nat.gcd_comm])
        have hlt := Nat.mod_lt p h0
        have OV := Lib.hid (over_any p q _ _ wr hp.out hq.out h0 (Nat.lt_of_lt_of_le hp2 limbig) (Nat.lt_of_lt_of_le hq2 lim199))
        generalize p / q = t at *
        generalize p % q = r at *
        clear h0
        go_wp2_with (go_at_call 42; (with_reducible refine OV.out.mono ?_); rintro e W3 ⟨v, u, rfl, hr3, hr4, hb3⟩; obtain ⟨A3, c3, rfl, -⟩ := id hr3; obtain ⟨A4, c4, rfl, -⟩ := id hr4)
        go_roundg r
        case measure => omega
        case rel => exact ⟨q, r, B, A4, d, c4, rfl, rfl, hq.out.below hb3, hr4, hq2, by omega, hgm, Nat.le_refl _, below_up hnx hb3⟩
  · have BO := Lib.hid (both_no h)
    have EQ := Lib.hid (op2_no (f := fun x y => outI (Int.gcd x y : Nat)) h)
    rw [EQ.out]
    clear EQ h
    go_enter Tryz.func20, Tryz.ntmps20
    go_wp2_with (go_at_call 38; (with_reducible refine (BO.out _).mono ?_); rintro e W1 ⟨rfl, hb1⟩)
    go_ret2
    exact ⟨rfl, below_up hb1 (below2 W1 _ _)⟩

/-- An int that a text spells, as 'ToInt' answers. -/
def toI (s : ByteArray) : Int × Int :=
  match rdI s with
  | some z => if -9223372036854775808 ≤ z ∧ z ≤ 9223372036854775807 then (z, 0) else (0, 30)
  | none => (0, 30)

theorem atoi_below {w w' : World} {u : TypeId} (h : w' = w ∨ ∃ t, w' = Lib.bytesWorld w u t) : Below w.heap.size w w' := by
  rcases h with rfl | ⟨t, rfl⟩
  · exact Below.refl _ _
  · exact Lib.bytesWorld_below _ _ _
set_option maxHeartbeats 1000000 in
theorem toInt_any (s : ByteArray) (hlim : s.size ≤ 281474976710656) (w : World) (hL : Laid w) : Calls Tryz.prog 31 #[.string s] w fun e w' => e = .returned (.tuple #[.int .i64 (toI s).1, .int .i64 (toI s).2]) ∧ Below w.heap.size w w' := by
  obtain ⟨_, t1, p1, t2, p2, hv1, hv2⟩ := hL
  have VA := Lib.hid (valid_any s)
  have A1 := Lib.hid (fun h => Tryz.strconv_Atoi_syntax_var s hlim h t1 p1 w hv1)
  have A2 := Lib.hid (fun h => Tryz.strconv_Atoi_range_var s hlim h t2 p2 w hv2)
  have A3 := Lib.hid (fun v h => Tryz.strconv_Atoi_ok s (by omega) v h w)
  clear hv1 hv2
  cases hr : rdI s with
  | some z =>
    have hv := (rd_valid hr).1
    have hs := (rdI_some hr).1
    have hat : Lib.atoiAll s.data.toList = if -9223372036854775808 ≤ z ∧ z ≤ 9223372036854775807 then .ok z else .range := by
      rw [hs]; exact atoi_itoa z
    have ht : toI s = if -9223372036854775808 ≤ z ∧ z ≤ 9223372036854775807 then (z, 0) else (0, 30) := by unfold toI; rw [hr]
    rw [ht]
    clear hr hs ht
    by_cases hz : -9223372036854775808 ≤ z ∧ z ≤ 9223372036854775807
    · rw [if_pos hz] at hat ⊢
      have AT := Lib.hid (A3.out z hat)
      clear A1 A2 A3 hat hz hlim
      go_enter Tryz.func31, Tryz.ntmps31
      go_wp2_with (first
        | (go_at_call 57; (with_reducible refine AT.out.mono ?_); rintro e W1 ⟨rfl, h1⟩; have hb1 := atoi_below h1; clear h1)
        | (go_at_call 47; (with_reducible refine (VA.out _).mono ?_); rintro e W2 ⟨rfl, hb2⟩))
      go_ret2
      exact ⟨rfl, below_up hb1 hb2⟩
    · rw [if_neg hz] at hat ⊢
      have AT := Lib.hid (A2.out hat)
      clear A1 A2 A3 hat hz hlim
      go_enter Tryz.func31, Tryz.ntmps31
      go_wp2_with (first
        | (go_at_call 57; (with_reducible refine AT.out.mono ?_); rintro e W1 ⟨N, rfl, -, -, hb1⟩)
        | (go_at_call 47; (with_reducible refine (VA.out _).mono ?_); rintro e W2 ⟨rfl, hb2⟩))
      go_ret2
      exact ⟨rfl, below_up hb1 hb2⟩
  | none =>
    have hv := rd_none hr
    have ht : toI s = (0, 30) := by unfold toI; rw [hr]
    rw [ht]
    clear hr ht
    have AT : Hid (Calls Tryz.prog 57 #[.string s] w fun e w' => ∃ n v, e = .returned (.tuple #[.int .i64 n, v]) ∧ Below w.heap.size w w') := by
      refine Lib.hid ?_
      cases h : Lib.atoiAll s.data.toList
      case ok v => exact (A3.out v h).mono fun e w' ⟨h1, h2⟩ => ⟨v, _, h1, atoi_below h2⟩
      case range => exact (A2.out h).mono fun e w' ⟨N, h1, _, _, h2⟩ => ⟨_, _, h1, h2⟩
      exact (A1.out h).mono fun e w' ⟨N, h1, _, _, h2⟩ => ⟨0, _, h1, h2⟩
    clear A1 A2 A3 hlim
    go_enter Tryz.func31, Tryz.ntmps31
    go_wp2_with (first
      | (go_at_call 57; (with_reducible refine AT.out.mono ?_); rintro e W1 ⟨n, v, rfl, hb1⟩)
      | (go_at_call 47; (with_reducible refine (VA.out _).mono ?_); rintro e W2 ⟨rfl, hb2⟩))
    go_ret2
    exact ⟨rfl, below_up hb1 hb2⟩

end Go.Proofs.YtcpkejpdpohfeaaGreatDoor
