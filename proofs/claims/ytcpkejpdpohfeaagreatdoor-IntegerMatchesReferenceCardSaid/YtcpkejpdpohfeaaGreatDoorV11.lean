/- The walks of the reference implementation's 'Mul', 'Div', 'Gcd'. Conditions: sizes. -/
import Derived.Test.YtcpkejpdpohfeaaGreatDoorV10
namespace Go.Proofs.YtcpkejpdpohfeaaGreatDoor
open Go.RowKit Num
open Go.Shelf

set_option maxHeartbeats 2000000 in
theorem rmul_any (a b : ByteArray) (has : a.size ≤ 9223372036854775807) (hbs : b.size ≤ 9223372036854775807) (w : World) :
    Calls Tryz.prog 27 #[.string a, .string b] w (RetP w (op2 (fun x y => outI (x * y)) a b)) := by
  rcases cases_two a b with ⟨x, y, ha, hb⟩ | ha | ⟨x, ha, hb⟩
  · rw [op2_ok ha hb]
    have V1 := Lib.hid (fun w => rvalid_some ha w)
    have V2 := Lib.hid (fun w => rvalid_some hb w)
    have D1 := Lib.hid (fun w => digits_any (s := a) ha w)
    have D2 := Lib.hid (fun w => digits_any (s := b) hb w)
    have T := Lib.hid (fun v u w hv hu => rtimes_any x.natAbs y.natAbs v u w hv hu (by have := is_len ha; omega) (by have := is_len hb; omega))
    have CK := Lib.hid (fun v w hv => checked_any (decide (x < 0) != decide (y < 0)) (x.natAbs * y.natAbs) v w hv)
    rw [sgn_mul] at CK
    clear ha hb has hbs
    generalize decide (x < 0) = n1 at *
    generalize decide (y < 0) = n2 at *
    rw [show (n1 != n2) = (!(n1 == n2)) from rfl] at CK
    go_enter Tryz.func27, Tryz.ntmps27
    go_wp2_with (first
      | (go_at_call 33; (with_reducible refine (V1.out _).mono ?_); rintro e w1 ⟨rfl, hb1⟩)
      | (go_at_call 33; (with_reducible refine (V2.out _).mono ?_); rintro e w2 ⟨rfl, hb2⟩)
      | (go_at_call 48; (with_reducible refine (D1.out _).mono ?_); rintro e w3 ⟨v3, rfl, hr3, hb3⟩)
      | (go_at_call 48; (with_reducible refine (D2.out _).mono ?_); rintro e w4 ⟨v4, rfl, hr4, hb4⟩)
      | (go_at_call 51; (with_reducible refine (T.out v3 v4 _ (hr3.below hb4) hr4).mono ?_); rintro e w5 ⟨v5, rfl, hr5, hb5⟩)
      | (go_at_call 50; (with_reducible refine (CK.out v5 _ hr5).mono ?_); rintro e w6 ⟨rfl, hb6⟩))
    go_ret2
    exact ⟨rfl, below_up hb1 (below_up hb2 (below_up hb3 (below_up hb4 (below_up hb5 hb6))))⟩
  · rw [op2_no (.inl ha)]
    have V1 := Lib.hid (fun w => rvalid_none has ha w)
    clear ha has hbs
    go_enter Tryz.func27, Tryz.ntmps27
    go_wp2_with (go_at_call 33; (with_reducible refine (V1.out _).mono ?_); rintro e w1 ⟨rfl, hb1⟩)
    go_ret2
    exact ⟨rfl, hb1⟩
  · rw [op2_no (.inr hb)]
    have V1 := Lib.hid (fun w => rvalid_some ha w)
    have V2 := Lib.hid (fun w => rvalid_none hbs hb w)
    clear ha hb has hbs
    go_enter Tryz.func27, Tryz.ntmps27
    go_wp2_with (first
      | (go_at_call 33; (with_reducible refine (V1.out _).mono ?_); rintro e w1 ⟨rfl, hb1⟩)
      | (go_at_call 33; (with_reducible refine (V2.out _).mono ?_); rintro e w2 ⟨rfl, hb2⟩))
    go_ret2
    exact ⟨rfl, below_up hb1 hb2⟩

theorem lit10_one (w : World) : Rd (w.alloc (.cells #[.int .i64 1] 3)) (.slice (some ⟨w.heap.size, 0, none⟩) 1 1) (dg 10 1) := by
  have e : dg 10 1 = [(1 : Int)] := by rw [dg_pos (by omega) (by omega), Nat.div_eq_of_lt (by omega), Nat.mod_eq_of_lt (by omega), dg_zero]; rfl
  rw [e]
  refine ⟨some ⟨w.heap.size, 0, none⟩, 1, rfl, ⟨Nat.le_refl _, fun e => by cases e⟩, by simp, fun _ => ⟨_, 0, rfl, fun j hj => ?_⟩⟩
  have : j = 0 := by simpa using hj
  subst this
  exact cell_new1 _ _ _
theorem len10_pos {n : Nat} (h : 0 < n) : (0 : Int) < ((dg 10 n).length : Int) := by
  have : dg 10 n ≠ [] := fun e => by rw [dg_eq_nil (by omega)] at e; omega
  have := List.length_pos_iff.2 this
  omega
theorem len10_zero {n : Nat} (h : ¬ 0 < n) : ¬ (0 : Int) < ((dg 10 n).length : Int) := by
  obtain rfl : n = 0 := by omega
  rw [dg_zero]; simp

set_option maxHeartbeats 4000000 in
theorem rdiv_any (a b : ByteArray) (has : a.size ≤ 9223372036854775807) (hbs : b.size ≤ 9223372036854775807) (w : World) :
    Calls Tryz.prog 28 #[.string a, .string b] w (RetT w (divI a b)) := by
  rcases cases_two a b with ⟨x, y, ha, hb⟩ | ha | ⟨x, ha, hb⟩
  · have V1 := Lib.hid (fun w => rvalid_some ha w)
    have V2 := Lib.hid (fun w => rvalid_some hb w)
    by_cases hy : y = 0
    · subst hy
      have e : divI a b = (⟨#[]⟩, ⟨#[]⟩, 30) := by unfold divI; rw [ha, hb]; simp
      rw [e]
      obtain rfl : b = ⟨#[48]⟩ := Is.uniq hb lit_0
      clear ha hb has hbs e
      go_enter Tryz.func28, Tryz.ntmps28
      go_wp2_with (first
        | (go_at_call 33; (with_reducible refine (V1.out _).mono ?_); rintro e w1 ⟨rfl, hb1⟩)
        | (go_at_call 33; (with_reducible refine (V2.out _).mono ?_); rintro e w2 ⟨rfl, hb2⟩))
      go_ret3
      exact ⟨rfl, below_up hb1 hb2⟩
    · have hb0 : (b.toList == [48]) = false := Is.differ0 hb hy
      have hY : 0 < y.natAbs := by omega
      have e : divI a b = (tx (x / y), tx (x % y), 0) := by unfold divI; rw [ha, hb]; simp only; rw [if_neg hy]
      rw [e]
      have D1 := Lib.hid (fun w => digits_any (s := a) ha w)
      have D2 := Lib.hid (fun w => digits_any (s := b) hb w)
      have DV := Lib.hid (fun v u w hv hu => divided10_any x.natAbs y.natAbs hY v u w hv hu (by have := is_len ha; omega) (by have := is_len hb; omega))
      have hfact := div_fact x y hy
      have hqs : (x / y).natAbs < 10 ^ 200 := Nat.lt_of_le_of_lt (Int.natAbs_ediv_le_natAbs _ _) (rd_small ha)
      have hql := dg10_len_le (Nat.div_le_self x.natAbs y.natAbs)
      have hla := is_len ha
      have hlb := is_len hb
      have hrm := Nat.mod_lt x.natAbs hY
      have hrs := rd_small hb
      have hob := outI_ok hqs
      by_cases hc : x < 0 ∧ 0 < x.natAbs % y.natAbs
      · obtain ⟨f1, f2⟩ := hfact.1 hc
        have hlen := len10_pos hc.2
        rw [decide_eq_true hc.1] at f1 D1
        have PL := Lib.hid (fun v u w hv hu => rplus_any (x.natAbs / y.natAbs) 1 v u w hv hu (by omega) (by have : (dg 10 1).length ≤ 1 := dg_len (by omega) 1 1 (by omega); omega))
        have MI := Lib.hid (fun v u w hv hu => rminus_any y.natAbs (x.natAbs % y.natAbs) (by omega) v u w hv hu (by omega))
        have CK := Lib.hid (fun v w hv => checked_any (true != decide (y < 0)) (x.natAbs / y.natAbs + 1) v w hv)
        rw [f1, hob] at CK
        have TT := Lib.hid (fun v w hv => rtext_any false (y.natAbs - x.natAbs % y.natAbs) v w hv)
        rw [f2] at TT
        clear ha hb has hbs e hfact hqs hql hla hlb hrs hob hc f1 f2 hy
        generalize decide (y < 0) = n2 at *
        rw [show (true != n2) = !n2 by cases n2 <;> rfl] at CK
        generalize x.natAbs / y.natAbs = q at *
        generalize x.natAbs % y.natAbs = r at *
        go_enter Tryz.func28, Tryz.ntmps28
        go_wp2_with (first
          | (go_at_call 33; (with_reducible refine (V1.out _).mono ?_); rintro e w1 ⟨rfl, hb1⟩)
          | (go_at_call 33; (with_reducible refine (V2.out _).mono ?_); rintro e w2 ⟨rfl, hb2⟩)
          | (go_at_call 48; (with_reducible refine (D1.out _).mono ?_); rintro e w3 ⟨v3, rfl, hr3, hb3⟩)
          | (go_at_call 48; (with_reducible refine (D2.out _).mono ?_); rintro e w4 ⟨v4, rfl, hr4, hb4⟩)
          | (go_at_call 52; (with_reducible refine (DV.out v3 v4 _ (hr3.below hb4) hr4).mono ?_); rintro e w5 ⟨v5, u5, rfl, hr5, hs5, hb5⟩; obtain ⟨A5, c5, rfl, -⟩ := id hs5)
          | (go_at_call 53; (with_reducible refine (PL.out v5 _ _ (hr5.below (below1 _ _)) (lit10_one _)).mono ?_); rintro e w6 ⟨v6, rfl, hr6, hb6⟩; have hb56 := below_up (below1 w5 _) hb6)
          | (go_at_call 54; (with_reducible refine (MI.out v4 _ _ (hr4.below (below_up hb5 hb56)) (hs5.below hb56)).mono ?_); rintro e w7 ⟨v7, rfl, hr7, hb7⟩)
          | (go_at_call 50; (with_reducible refine (CK.out v6 _ (hr6.below hb7)).mono ?_); rintro e w8 ⟨rfl, hb8⟩)
          | (go_at_call 36; (with_reducible refine (TT.out v7 _ (hr7.below hb8)).mono ?_); rintro e w9 ⟨rfl, hb9⟩))
        go_ret3
        exact ⟨rfl, below_up hb1 (below_up hb2 (below_up hb3 (below_up hb4 (below_up hb5 (below_up hb56 (below_up hb7 (below_up hb8 hb9)))))))⟩
      · obtain ⟨f1, f2⟩ := hfact.2 hc
        have hlen : ¬ x < 0 ∨ (x < 0 ∧ ¬ (0 : Int) < ((dg 10 (x.natAbs % y.natAbs)).length : Int)) := by
          by_cases k : x < 0
          · exact .inr ⟨k, len10_zero (fun q => hc ⟨k, q⟩)⟩
          · exact .inl k
        have CK := Lib.hid (fun v w hv => checked_any (decide (x < 0) != decide (y < 0)) (x.natAbs / y.natAbs) v w hv)
        rw [f1, hob] at CK
        have TT := Lib.hid (fun v w hv => rtext_any false (x.natAbs % y.natAbs) v w hv)
        rw [f2] at TT
        clear ha hb has hbs e hfact hqs hql hla hlb hrs hob hc f1 f2 hy
        rcases hlen with hlen | ⟨hxn, hlen⟩
        · rw [decide_eq_false hlen] at D1 CK
          clear hlen
          generalize decide (y < 0) = n2 at *
          rw [show (false != n2) = n2 by cases n2 <;> rfl] at CK
          generalize x.natAbs / y.natAbs = q at *
          generalize x.natAbs % y.natAbs = r at *
          go_enter Tryz.func28, Tryz.ntmps28
          go_wp2_with (first
            | (go_at_call 33; (with_reducible refine (V1.out _).mono ?_); rintro e w1 ⟨rfl, hb1⟩)
            | (go_at_call 33; (with_reducible refine (V2.out _).mono ?_); rintro e w2 ⟨rfl, hb2⟩)
            | (go_at_call 48; (with_reducible refine (D1.out _).mono ?_); rintro e w3 ⟨v3, rfl, hr3, hb3⟩)
            | (go_at_call 48; (with_reducible refine (D2.out _).mono ?_); rintro e w4 ⟨v4, rfl, hr4, hb4⟩)
            | (go_at_call 52; (with_reducible refine (DV.out v3 v4 _ (hr3.below hb4) hr4).mono ?_); rintro e w5 ⟨v5, u5, rfl, hr5, hs5, hb5⟩; obtain ⟨A5, c5, rfl, -⟩ := id hs5)
            | (go_at_call 50; (with_reducible refine (CK.out v5 _ hr5).mono ?_); rintro e w8 ⟨rfl, hb8⟩)
            | (go_at_call 36; (with_reducible refine (TT.out _ _ (hs5.below hb8)).mono ?_); rintro e w9 ⟨rfl, hb9⟩))
          go_ret3
          exact ⟨rfl, below_up hb1 (below_up hb2 (below_up hb3 (below_up hb4 (below_up hb5 (below_up hb8 hb9)))))⟩
        · rw [decide_eq_true hxn] at D1 CK
          clear hxn
          generalize decide (y < 0) = n2 at *
          rw [show (true != n2) = !n2 by cases n2 <;> rfl] at CK
          generalize x.natAbs / y.natAbs = q at *
          generalize x.natAbs % y.natAbs = r at *
          go_enter Tryz.func28, Tryz.ntmps28
          go_wp2_with (first
            | (go_at_call 33; (with_reducible refine (V1.out _).mono ?_); rintro e w1 ⟨rfl, hb1⟩)
            | (go_at_call 33; (with_reducible refine (V2.out _).mono ?_); rintro e w2 ⟨rfl, hb2⟩)
            | (go_at_call 48; (with_reducible refine (D1.out _).mono ?_); rintro e w3 ⟨v3, rfl, hr3, hb3⟩)
            | (go_at_call 48; (with_reducible refine (D2.out _).mono ?_); rintro e w4 ⟨v4, rfl, hr4, hb4⟩)
            | (go_at_call 52; (with_reducible refine (DV.out v3 v4 _ (hr3.below hb4) hr4).mono ?_); rintro e w5 ⟨v5, u5, rfl, hr5, hs5, hb5⟩; obtain ⟨A5, c5, rfl, -⟩ := id hs5)
            | (go_at_call 50; (with_reducible refine (CK.out v5 _ hr5).mono ?_); rintro e w8 ⟨rfl, hb8⟩)
            | (go_at_call 36; (with_reducible refine (TT.out _ _ (hs5.below hb8)).mono ?_); rintro e w9 ⟨rfl, hb9⟩))
          go_ret3
          exact ⟨rfl, below_up hb1 (below_up hb2 (below_up hb3 (below_up hb4 (below_up hb5 (below_up hb8 hb9)))))⟩
  · rw [show divI a b = (⟨#[]⟩, ⟨#[]⟩, 30) by unfold divI; rw [ha]]
    have V1 := Lib.hid (fun w => rvalid_none has ha w)
    clear ha has hbs
    go_enter Tryz.func28, Tryz.ntmps28
    go_wp2_with (go_at_call 33; (with_reducible refine (V1.out _).mono ?_); rintro e w1 ⟨rfl, hb1⟩)
    go_ret3
    exact ⟨rfl, hb1⟩
  · rw [show divI a b = (⟨#[]⟩, ⟨#[]⟩, 30) by unfold divI; rw [ha, hb]]
    have V1 := Lib.hid (fun w => rvalid_some ha w)
    have V2 := Lib.hid (fun w => rvalid_none hbs hb w)
    clear ha hb has hbs
    go_enter Tryz.func28, Tryz.ntmps28
    go_wp2_with (first
      | (go_at_call 33; (with_reducible refine (V1.out _).mono ?_); rintro e w1 ⟨rfl, hb1⟩)
      | (go_at_call 33; (with_reducible refine (V2.out _).mono ?_); rintro e w2 ⟨rfl, hb2⟩))
    go_ret3
    exact ⟨rfl, below_up hb1 hb2⟩

set_option maxHeartbeats 4000000 in
set_option maxRecDepth 100000 in
theorem rgcd_any (a b : ByteArray) (has : a.size ≤ 9223372036854775807) (hbs : b.size ≤ 9223372036854775807) (w : World) :
    Calls Tryz.prog 29 #[.string a, .string b] w (RetP w (op2 (fun x y => outI (Int.gcd x y : Nat)) a b)) := by
  rcases cases_two a b with ⟨x, y, ha, hb⟩ | ha | ⟨x, ha, hb⟩
  · rw [op2_ok ha hb]
    have V1 := Lib.hid (fun w => rvalid_some ha w)
    have V2 := Lib.hid (fun w => rvalid_some hb w)
    have D1 := Lib.hid (fun w => digits_any (s := a) ha w)
    have D2 := Lib.hid (fun w => digits_any (s := b) hb w)
    have hxs := Lib.hid (rd_small ha)
    have hys := Lib.hid (rd_small hb)
    have hG : Hid (Nat.gcd x.natAbs y.natAbs = Int.gcd x y) := Lib.hid rfl
    clear ha hb has hbs
    generalize Int.gcd x y = G at *
    go_enter Tryz.func29, Tryz.ntmps29
    go_wp2_with (first
      | (go_at_call 33; (with_reducible refine (V1.out _).mono ?_); rintro e w1 ⟨rfl, hb1⟩)
      | (go_at_call 33; (with_reducible refine (V2.out _).mono ?_); rintro e w2 ⟨rfl, hb2⟩)
      | (go_at_call 48; (with_reducible refine (D1.out _).mono ?_); rintro e w3 ⟨v3, rfl, hr3, hb3⟩)
      | (go_at_call 48; (with_reducible refine (D2.out _).mono ?_); rintro e w4 ⟨v4, rfl, hr4, hb4⟩))
    obtain ⟨A4, c4, rfl, -⟩ := id hr4
    go_loopg [7, 9, 10, 11] y.natAbs (fun kx s7 s9 s10 s11 wr => ∃ (m n : Nat) (A : Option Addr) (c : Nat), s9 = .slice A (dg 10 n).length c ∧ n ≤ kx ∧ Hid (Nat.gcd m n = G) ∧ Hid (m < 10 ^ 200) ∧ Hid (n < 10 ^ 200) ∧ Hid (Rd wr s7 (dg 10 m)) ∧ Hid (Rd wr s9 (dg 10 n)) ∧ Below w.heap.size w wr)
    case atStart => exact ⟨x.natAbs, y.natAbs, A4, c4, rfl, Nat.le_refl _, hG, hxs, hys, Lib.hid (hr3.below hb4), Lib.hid hr4, below_up hb1 (below_up hb2 (below_up hb3 hb4))⟩
    case round =>
      obtain ⟨m, n, A, c, rfl, hk, hg, hms, hns, hrm, hrn, hnx⟩ := hrel
      by_cases hn : 0 < n
      · have hlen := len10_pos hn
        have DV := Lib.hid (divided10_any m n hn _ _ wr hrm.out hrn.out (by have := dg_len (B := 10) (by omega) 200 m hms.out; omega) (by have := dg_len (B := 10) (by omega) 200 n hns.out; omega))
        have hlt := Nat.mod_lt m hn
        have hg2 : Hid (Nat.gcd n (m % n) = G) := Lib.hid (by rw [← hg.out, Nat.gcd_comm m n, Nat.gcd_rec n m, Nat.gcd_comm])
        have hs2 : Hid (m % n < 10 ^ 200) := Lib.hid (Nat.lt_trans hlt hns.out)
        generalize m % n = r at *
        generalize m / n = q at *
        go_wp2_with (go_at_call 52; (with_reducible refine DV.out.mono ?_); rintro e w5 ⟨v5, u5, rfl, hr5, hs5, hb5⟩; obtain ⟨A5, c5, rfl, -⟩ := id hs5)
        go_roundg r
        case measure => omega
        case rel => exact ⟨n, r, A5, c5, rfl, Nat.le_refl _, hg2, hns, hs2, Lib.hid (hrn.out.below hb5), Lib.hid hs5, below_up hnx hb5⟩
      · have hlen := len10_zero hn
        obtain rfl : n = 0 := by omega
        have CK := Lib.hid (checked_any false m _ wr hrm.out)
        have e : Hid (sgn false m = (G : Int)) := Lib.hid (by rw [← hg.out, Nat.gcd_zero_right]; unfold sgn; simp)
        clear hn
        go_wp2_with (go_at_call 50; (with_reducible refine CK.out.mono ?_); rintro e w6 ⟨rfl, hb6⟩)
        go_ret2
        exact ⟨by rw [← e.out]; rfl, below_up hnx hb6⟩
  · rw [op2_no (.inl ha)]
    have V1 := Lib.hid (fun w => rvalid_none has ha w)
    clear ha has hbs
    go_enter Tryz.func29, Tryz.ntmps29
    go_wp2_with (go_at_call 33; (with_reducible refine (V1.out _).mono ?_); rintro e w1 ⟨rfl, hb1⟩)
    go_ret2
    exact ⟨rfl, hb1⟩
  · rw [op2_no (.inr hb)]
    have V1 := Lib.hid (fun w => rvalid_some ha w)
    have V2 := Lib.hid (fun w => rvalid_none hbs hb w)
    clear ha hb has hbs
    go_enter Tryz.func29, Tryz.ntmps29
    go_wp2_with (first
      | (go_at_call 33; (with_reducible refine (V1.out _).mono ?_); rintro e w1 ⟨rfl, hb1⟩)
      | (go_at_call 33; (with_reducible refine (V2.out _).mono ?_); rintro e w2 ⟨rfl, hb2⟩))
    go_ret2
    exact ⟨rfl, below_up hb1 hb2⟩

end Go.Proofs.YtcpkejpdpohfeaaGreatDoor
