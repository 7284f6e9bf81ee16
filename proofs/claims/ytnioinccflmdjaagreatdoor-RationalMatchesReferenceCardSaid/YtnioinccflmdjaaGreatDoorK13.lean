/- The walks of the reference implementation's 'Mul', 'Div', 'Gcd'. Conditions: sizes. The walk of the reference implementation's 'FromInt'. Conditions: an int. The walk of the reference implementation's 'ToInt'. Conditions: sizes. workpieceref04: Valid. Conditions: sizes. workpieceref04: Make. Conditions: sizes. -/
import Derived.Test.YtnioinccflmdjaaGreatDoorK12
import Derived.Test.YtnioinccflmdjaaGreatDoorK7
import Derived.Test.YtnioinccflmdjaaGreatDoorK8
namespace Go.Proofs.YtnioinccflmdjaaGreatDoor
open Go.RowKit Num
open Go.Shelf

set_option maxHeartbeats 2000000 in
theorem rmul_any (a b : ByteArray) (has : a.size ≤ 9223372036854775807) (hbs : b.size ≤ 9223372036854775807) (w : World) :
    Calls Tryz.prog 21 #[.string a, .string b] w (RetP w (op2 (fun x y => outI (x * y)) a b)) := by
  rcases cases_two a b with ⟨x, y, ha, hb⟩ | ha | ⟨x, ha, hb⟩
  · rw [op2_ok ha hb]
    have V1 := Lib.hid (fun w => rvalid_some ha w)
    have V2 := Lib.hid (fun w => rvalid_some hb w)
    have D1 := Lib.hid (fun w => digits_any (s := a) ha w)
    have D2 := Lib.hid (fun w => digits_any (s := b) hb w)
    have T := Lib.hid (fun v u w hv hu => rtimes_any x.natAbs y.natAbs v u w hv hu (by have := is_len ha; omega) (by have := is_len hb; omega))
    have CK := Lib.hid (fun v w hv => checked_any (decide (x < 0) != decide (y < 0)) (x.natAbs * y.natAbs) v w hv)
    rw [sgn_mul] at CK
    clear ha hb has hbs
    generalize decide (x < 0) = n1 at *
    generalize decide (y < 0) = n2 at *
    rw [show (n1 != n2) = (!(n1 == n2)) from rfl] at CK
    go_enter Tryz.func21, Tryz.ntmps21
    go_wp2_with (first
      | (go_at_call 53; (with_reducible refine (V1.out _).mono ?_); rintro e w1 ⟨rfl, hb1⟩)
      | (go_at_call 53; (with_reducible refine (V2.out _).mono ?_); rintro e w2 ⟨rfl, hb2⟩)
      | (go_at_call 54; (with_reducible refine (D1.out _).mono ?_); rintro e w3 ⟨v3, rfl, hr3, hb3⟩)
      | (go_at_call 54; (with_reducible refine (D2.out _).mono ?_); rintro e w4 ⟨v4, rfl, hr4, hb4⟩)
      | (go_at_call 56; (with_reducible refine (T.out v3 v4 _ (hr3.below hb4) hr4).mono ?_); rintro e w5 ⟨v5, rfl, hr5, hb5⟩)
      | (go_at_call 55; (with_reducible refine (CK.out v5 _ hr5).mono ?_); rintro e w6 ⟨rfl, hb6⟩))
    go_ret2
    exact ⟨rfl, below_up hb1 (below_up hb2 (below_up hb3 (below_up hb4 (below_up hb5 hb6))))⟩
  · rw [op2_no (.inl ha)]
    have V1 := Lib.hid (fun w => rvalid_none has ha w)
    clear ha has hbs
    go_enter Tryz.func21, Tryz.ntmps21
    go_wp2_with (go_at_call 53; (with_reducible refine (V1.out _).mono ?_); rintro e w1 ⟨rfl, hb1⟩)
    go_ret2
    exact ⟨rfl, hb1⟩
  · rw [op2_no (.inr hb)]
    have V1 := Lib.hid (fun w => rvalid_some ha w)
    have V2 := Lib.hid (fun w => rvalid_none hbs hb w)
    clear ha hb has hbs
    go_enter Tryz.func21, Tryz.ntmps21
    go_wp2_with (first
      | (go_at_call 53; (with_reducible refine (V1.out _).mono ?_); rintro e w1 ⟨rfl, hb1⟩)
      | (go_at_call 53; (with_reducible refine (V2.out _).mono ?_); rintro e w2 ⟨rfl, hb2⟩))
    go_ret2
    exact ⟨rfl, below_up hb1 hb2⟩

theorem lit10_one (w : World) : Rd (w.alloc (.cells #[.int .i64 1] 3)) (.slice (some ⟨w.heap.size, 0, none⟩) 1 1) (dg 10 1) := by
  have e : dg 10 1 = [(1 : Int)] := by rw [dg_pos (by omega) (by omega), Nat.div_eq_of_lt (by omega), Nat.mod_eq_of_lt (by omega), dg_zero]; rfl
  rw [e]
  refine ⟨some ⟨w.heap.size, 0, none⟩, 1, rfl, ⟨Nat.le_refl _, fun e => by cases e⟩, by simp, fun _ => ⟨_, 0, rfl, fun j hj => ?_⟩⟩
  have : j = 0 := by simpa using hj
  subst this
  exact cell_new1 _ _ _
theorem len10_pos {n : Nat} (h : 0 < n) : (0 : Int) < ((dg 10 n).length : Int) := by
  have : dg 10 n ≠ [] := fun e => by rw [dg_eq_nil (by omega)] at e; omega
  have := List.length_pos_iff.2 this
  omega
theorem len10_zero {n : Nat} (h : ¬ 0 < n) : ¬ (0 : Int) < ((dg 10 n).length : Int) := by
  obtain rfl : n = 0 := by omega
  rw [dg_zero]; simp

set_option maxHeartbeats 4000000 in
theorem rdiv_any (a b : ByteArray) (has : a.size ≤ 9223372036854775807) (hbs : b.size ≤ 9223372036854775807) (w : World) :
    Calls Tryz.prog 66 #[.string a, .string b] w (RetT w (divI a b)) := by
  rcases cases_two a b with ⟨x, y, ha, hb⟩ | ha | ⟨x, ha, hb⟩
  · have V1 := Lib.hid (fun w => rvalid_some ha w)
    have V2 := Lib.hid (fun w => rvalid_some hb w)
    by_cases hy : y = 0
    · subst hy
      have e : divI a b = (⟨#[]⟩, ⟨#[]⟩, 30) := by unfold divI; rw [ha, hb]; simp
      rw [e]
      obtain rfl : b = ⟨#[48]⟩ := Is.uniq hb lit_0
      clear ha hb has hbs e
      go_enter Tryz.func66, Tryz.ntmps66
      go_wp2_with (first
        | (go_at_call 53; (with_reducible refine (V1.out _).mono ?_); rintro e w1 ⟨rfl, hb1⟩)
        | (go_at_call 53; (with_reducible refine (V2.out _).mono ?_); rintro e w2 ⟨rfl, hb2⟩))
      go_ret3
      exact ⟨rfl, below_up hb1 hb2⟩
    · have hb0 : (b.toList == [48]) = false := Is.differ0 hb hy
      have hY : 0 < y.natAbs := by omega
      have e : divI a b = (tx (x / y), tx (x % y), 0) := by unfold divI; rw [ha, hb]; simp only; rw [if_neg hy]
      rw [e]
      have D1 := Lib.hid (fun w => digits_any (s := a) ha w)
      have D2 := Lib.hid (fun w => digits_any (s := b) hb w)
      have DV := Lib.hid (fun v u w hv hu => divided10_any x.natAbs y.natAbs hY v u w hv hu (by have := is_len ha; omega) (by have := is_len hb; omega))
      have hfact := div_fact x y hy
      have hqs : (x / y).natAbs < 10 ^ 200 := Nat.lt_of_le_of_lt (Int.natAbs_ediv_le_natAbs _ _) (rd_small ha)
      have hql := dg10_len_le (Nat.div_le_self x.natAbs y.natAbs)
      have hla := is_len ha
      have hlb := is_len hb
      have hrm := Nat.mod_lt x.natAbs hY
      have hrs := rd_small hb
      have hob := outI_ok hqs
      by_cases hc : x < 0 ∧ 0 < x.natAbs % y.natAbs
      · obtain ⟨f1, f2⟩ := hfact.1 hc
        have hlen := len10_pos hc.2
        rw [decide_eq_true hc.1] at f1 D1
        have PL := Lib.hid (fun v u w hv hu => rplus_any (x.natAbs / y.natAbs) 1 v u w hv hu (by omega) (by have : (dg 10 1).length ≤ 1 := dg_len (by omega) 1 1 (by omega); omega))
        have MI := Lib.hid (fun v u w hv hu => rminus_any y.natAbs (x.natAbs % y.natAbs) (by omega) v u w hv hu (by omega))
        have CK := Lib.hid (fun v w hv => checked_any (true != decide (y < 0)) (x.natAbs / y.natAbs + 1) v w hv)
        rw [f1, hob] at CK
        have TT := Lib.hid (fun v w hv => rtext_any false (y.natAbs - x.natAbs % y.natAbs) v w hv)
        rw [f2] at TT
        clear ha hb has hbs e hfact hqs hql hla hlb hrs hob hc f1 f2 hy
        generalize decide (y < 0) = n2 at *
        rw [show (true != n2) = !n2 by cases n2 <;> rfl] at CK
        generalize x.natAbs / y.natAbs = q at *
        generalize x.natAbs % y.natAbs = r at *
        go_enter Tryz.func66, Tryz.ntmps66
        go_wp2_with (first
          | (go_at_call 53; (with_reducible refine (V1.out _).mono ?_); rintro e w1 ⟨rfl, hb1⟩)
          | (go_at_call 53; (with_reducible refine (V2.out _).mono ?_); rintro e w2 ⟨rfl, hb2⟩)
          | (go_at_call 54; (with_reducible refine (D1.out _).mono ?_); rintro e w3 ⟨v3, rfl, hr3, hb3⟩)
          | (go_at_call 54; (with_reducible refine (D2.out _).mono ?_); rintro e w4 ⟨v4, rfl, hr4, hb4⟩)
          | (go_at_call 92; (with_reducible refine (DV.out v3 v4 _ (hr3.below hb4) hr4).mono ?_); rintro e w5 ⟨v5, u5, rfl, hr5, hs5, hb5⟩; obtain ⟨A5, c5, rfl, -⟩ := id hs5)
          | (go_at_call 93; (with_reducible refine (PL.out v5 _ _ (hr5.below (below1 _ _)) (lit10_one _)).mono ?_); rintro e w6 ⟨v6, rfl, hr6, hb6⟩; have hb56 := below_up (below1 w5 _) hb6)
          | (go_at_call 94; (with_reducible refine (MI.out v4 _ _ (hr4.below (below_up hb5 hb56)) (hs5.below hb56)).mono ?_); rintro e w7 ⟨v7, rfl, hr7, hb7⟩)
          | (go_at_call 55; (with_reducible refine (CK.out v6 _ (hr6.below hb7)).mono ?_); rintro e w8 ⟨rfl, hb8⟩)
          | (go_at_call 52; (with_reducible refine (TT.out v7 _ (hr7.below hb8)).mono ?_); rintro e w9 ⟨rfl, hb9⟩))
        go_ret3
        exact ⟨rfl, below_up hb1 (below_up hb2 (below_up hb3 (below_up hb4 (below_up hb5 (below_up hb56 (below_up hb7 (below_up hb8 hb9)))))))⟩
      · obtain ⟨f1, f2⟩ := hfact.2 hc
        have hlen : ¬ x < 0 ∨ (x < 0 ∧ ¬ (0 : Int) < ((dg 10 (x.natAbs % y.natAbs)).length : Int)) := by
          by_cases k : x < 0
          · exact .inr ⟨k, len10_zero (fun q => hc ⟨k, q⟩)⟩
          · exact .inl k
        have CK := Lib.hid (fun v w hv => checked_any (decide (x < 0) != decide (y < 0)) (x.natAbs / y.natAbs) v w hv)
        rw [f1, hob] at CK
        have TT := Lib.hid (fun v w hv => rtext_any false (x.natAbs % y.natAbs) v w hv)
        rw [f2] at TT
        clear ha hb has hbs e hfact hqs hql hla hlb hrs hob hc f1 f2 hy
        rcases hlen with hlen | ⟨hxn, hlen⟩
        · rw [decide_eq_false hlen] at D1 CK
          clear hlen
          generalize decide (y < 0) = n2 at *
          rw [show (false != n2) = n2 by cases n2 <;> rfl] at CK
          generalize x.natAbs / y.natAbs = q at *
          generalize x.natAbs % y.natAbs = r at *
          go_enter Tryz.func66, Tryz.ntmps66
          go_wp2_with (first
            | (go_at_call 53; (with_reducible refine (V1.out _).mono ?_); rintro e w1 ⟨rfl, hb1⟩)
            | (go_at_call 53; (with_reducible refine (V2.out _).mono ?_); rintro e w2 ⟨rfl, hb2⟩)
            | (go_at_call 54; (with_reducible refine (D1.out _).mono ?_); rintro e w3 ⟨v3, rfl, hr3, hb3⟩)
            | (go_at_call 54; (with_reducible refine (D2.out _).mono ?_); rintro e w4 ⟨v4, rfl, hr4, hb4⟩)
            | (go_at_call 92; (with_reducible refine (DV.out v3 v4 _ (hr3.below hb4) hr4).mono ?_); rintro e w5 ⟨v5, u5, rfl, hr5, hs5, hb5⟩; obtain ⟨A5, c5, rfl, -⟩ := id hs5)
            | (go_at_call 55; (with_reducible refine (CK.out v5 _ hr5).mono ?_); rintro e w8 ⟨rfl, hb8⟩)
            | (go_at_call 52; (with_reducible refine (TT.out _ _ (hs5.below hb8)).mono ?_); rintro e w9 ⟨rfl, hb9⟩))
          go_ret3
          exact ⟨rfl, below_up hb1 (below_up hb2 (below_up hb3 (below_up hb4 (below_up hb5 (below_up hb8 hb9)))))⟩
        · rw [decide_eq_true hxn] at D1 CK
          clear hxn
          generalize decide (y < 0) = n2 at *
          rw [show (true != n2) = !n2 by cases n2 <;> rfl] at CK
          generalize x.natAbs / y.natAbs = q at *
          generalize x.natAbs % y.natAbs = r at *
          go_enter Tryz.func66, Tryz.ntmps66
          go_wp2_with (first
            | (go_at_call 53; (with_reducible refine (V1.out _).mono ?_); rintro e w1 ⟨rfl, hb1⟩)
            | (go_at_call 53; (with_reducible refine (V2.out _).mono ?_); rintro e w2 ⟨rfl, hb2⟩)
            | (go_at_call 54; (with_reducible refine (D1.out _).mono ?_); rintro e w3 ⟨v3, rfl, hr3, hb3⟩)
            | (go_at_call 54; (with_reducible refine (D2.out _).mono ?_); rintro e w4 ⟨v4, rfl, hr4, hb4⟩)
            | (go_at_call 92; (with_reducible refine (DV.out v3 v4 _ (hr3.below hb4) hr4).mono ?_); rintro e w5 ⟨v5, u5, rfl, hr5, hs5, hb5⟩; obtain ⟨A5, c5, rfl, -⟩ := id hs5)
            | (go_at_call 55; (with_reducible refine (CK.out v5 _ hr5).mono ?_); rintro e w8 ⟨rfl, hb8⟩)
            | (go_at_call 52; (with_reducible refine (TT.out _ _ (hs5.below hb8)).mono ?_); rintro e w9 ⟨rfl, hb9⟩))
          go_ret3
          exact ⟨rfl, below_up hb1 (below_up hb2 (below_up hb3 (below_up hb4 (below_up hb5 (below_up hb8 hb9)))))⟩
  · rw [show divI a b = (⟨#[]⟩, ⟨#[]⟩, 30) by unfold divI; rw [ha]]
    have V1 := Lib.hid (fun w => rvalid_none has ha w)
    clear ha has hbs
    go_enter Tryz.func66, Tryz.ntmps66
    go_wp2_with (go_at_call 53; (with_reducible refine (V1.out _).mono ?_); rintro e w1 ⟨rfl, hb1⟩)
    go_ret3
    exact ⟨rfl, hb1⟩
  · rw [show divI a b = (⟨#[]⟩, ⟨#[]⟩, 30) by unfold divI; rw [ha, hb]]
    have V1 := Lib.hid (fun w => rvalid_some ha w)
    have V2 := Lib.hid (fun w => rvalid_none hbs hb w)
    clear ha hb has hbs
    go_enter Tryz.func66, Tryz.ntmps66
    go_wp2_with (first
      | (go_at_call 53; (with_reducible refine (V1.out _).mono ?_); rintro e w1 ⟨rfl, hb1⟩)
      | (go_at_call 53; (with_reducible refine (V2.out _).mono ?_); rintro e w2 ⟨rfl, hb2⟩))
    go_ret3
    exact ⟨rfl, below_up hb1 hb2⟩

set_option maxHeartbeats 4000000 in
set_option maxRecDepth 100000 in
theorem rgcd_any (a b : ByteArray) (has : a.size ≤ 9223372036854775807) (hbs : b.size ≤ 9223372036854775807) (w : World) :
    Calls Tryz.prog 71 #[.string a, .string b] w (RetP w (op2 (fun x y => outI (Int.gcd x y : Nat)) a b)) := by
  rcases cases_two a b with ⟨x, y, ha, hb⟩ | ha | ⟨x, ha, hb⟩
  · rw [op2_ok ha hb]
    have V1 := Lib.hid (fun w => rvalid_some ha w)
    have V2 := Lib.hid (fun w => rvalid_some hb w)
    have D1 := Lib.hid (fun w => digits_any (s := a) ha w)
    have D2 := Lib.hid (fun w => digits_any (s := b) hb w)
    have hxs := Lib.hid (rd_small ha)
    have hys := Lib.hid (rd_small hb)
    have hG : Hid (Nat.gcd x.natAbs y.natAbs = Int.gcd x y) := Lib.hid rfl
    clear ha hb has hbs
    generalize Int.gcd x y = G at *
    go_enter Tryz.func71, Tryz.ntmps71
    go_wp2_with (first
      | (go_at_call 53; (with_reducible refine (V1.out _).mono ?_); rintro e w1 ⟨rfl, hb1⟩)
      | (go_at_call 53; (with_reducible refine (V2.out _).mono ?_); rintro e w2 ⟨rfl, hb2⟩)
      | (go_at_call 54; (with_reducible refine (D1.out _).mono ?_); rintro e w3 ⟨v3, rfl, hr3, hb3⟩)
      | (go_at_call 54; (with_reducible refine (D2.out _).mono ?_); rintro e w4 ⟨v4, rfl, hr4, hb4⟩))
    obtain ⟨A4, c4, rfl, -⟩ := id hr4
    go_loopg [7, 9, 10, 11] y.natAbs (fun kx s7 s9 s10 s11 wr => ∃ (m n : Nat) (A : Option Addr) (c : Nat), s9 = .slice A (dg 10 n).length c ∧ n ≤ kx ∧ Hid (Nat.gcd m n = G) ∧ Hid (m < 10 ^ 200) ∧ Hid (n < 10 ^ 200) ∧ Hid (Rd wr s7 (dg 10 m)) ∧ Hid (Rd wr s9 (dg 10 n)) ∧ Below w.heap.size w wr)
    case atStart => exact ⟨x.natAbs, y.natAbs, A4, c4, rfl, Nat.le_refl _, hG, hxs, hys, Lib.hid (hr3.below hb4), Lib.hid hr4, below_up hb1 (below_up hb2 (below_up hb3 hb4))⟩
    case round =>
      obtain ⟨m, n, A, c, rfl, hk, hg, hms, hns, hrm, hrn, hnx⟩ := hrel
      by_cases hn : 0 < n
      · have hlen := len10_pos hn
        have DV := Lib.hid (divided10_any m n hn _ _ wr hrm.out hrn.out (by have := dg_len (B := 10) (by omega) 200 m hms.out; omega) (by have := dg_len (B := 10) (by omega) 200 n hns.out; omega))
        have hlt := Nat.mod_lt m hn
        have hg2 : Hid (Nat.gcd n (m % n) = G) := Lib.hid (by rw [← hg.out, Nat.gcd_comm m n, Nat.gcd_rec n m, Nat.gcd_comm])
        have hs2 : Hid (m % n < 10 ^ 200) := Lib.hid (Nat.lt_trans hlt hns.out)
        generalize m % n = r at *
        generalize m / n = q at *
        go_wp2_with (go_at_call 92; (with_reducible refine DV.out.mono ?_); rintro e w5 ⟨v5, u5, rfl, hr5, hs5, hb5⟩; obtain ⟨A5, c5, rfl, -⟩ := id hs5)
        go_roundg r
        case measure => omega
        case rel => exact ⟨n, r, A5, c5, rfl, Nat.le_refl _, hg2, hns, hs2, Lib.hid (hrn.out.below hb5), Lib.hid hs5, below_up hnx hb5⟩
      · have hlen := len10_zero hn
        obtain rfl : n = 0 := by omega
        have CK := Lib.hid (checked_any false m _ wr hrm.out)
        have e : Hid (sgn false m = (G : Int)) := Lib.hid (by rw [← hg.out, Nat.gcd_zero_right]; unfold sgn; simp)
        clear hn
        go_wp2_with (go_at_call 55; (with_reducible refine CK.out.mono ?_); rintro e w6 ⟨rfl, hb6⟩)
        go_ret2
        exact ⟨by rw [← e.out]; rfl, below_up hnx hb6⟩
  · rw [op2_no (.inl ha)]
    have V1 := Lib.hid (fun w => rvalid_none has ha w)
    clear ha has hbs
    go_enter Tryz.func71, Tryz.ntmps71
    go_wp2_with (go_at_call 53; (with_reducible refine (V1.out _).mono ?_); rintro e w1 ⟨rfl, hb1⟩)
    go_ret2
    exact ⟨rfl, hb1⟩
  · rw [op2_no (.inr hb)]
    have V1 := Lib.hid (fun w => rvalid_some ha w)
    have V2 := Lib.hid (fun w => rvalid_none hbs hb w)
    clear ha hb has hbs
    go_enter Tryz.func71, Tryz.ntmps71
    go_wp2_with (first
      | (go_at_call 53; (with_reducible refine (V1.out _).mono ?_); rintro e w1 ⟨rfl, hb1⟩)
      | (go_at_call 53; (with_reducible refine (V2.out _).mono ?_); rintro e w2 ⟨rfl, hb2⟩))
    go_ret2
    exact ⟨rfl, below_up hb1 hb2⟩

end Go.Proofs.YtnioinccflmdjaaGreatDoor

namespace Go.Proofs.YtnioinccflmdjaaGreatDoor
open Go.RowKit Num
open Go.Shelf

/-- What is written, and what remains. -/
def FN (N : Nat) (m : Int) (ys : List Int) : Prop := ys ++ dg 10 m.natAbs = dg 10 N
theorem FN.step {N : Nat} {m m2 d : Int} {ys : List Int} (h : FN N m ys) (h0 : m ≠ 0) (hm : m2.natAbs = m.natAbs / 10) (hd : d = (m.natAbs % 10 : Nat)) : FN N m2 (ys ++ [d]) := by
  unfold FN at h ⊢
  rw [hm, List.append_assoc, ← h, dg_pos (B := 10) (n := m.natAbs) (by omega) (by omega), hd]
  rfl
theorem FN.done {N : Nat} {ys : List Int} (h : FN N 0 ys) : ys = dg 10 N := by
  unfold FN at h
  rw [show (0 : Int).natAbs = 0 from rfl, dg_zero, List.append_nil] at h
  exact h
theorem FN.len {N : Nat} {m : Int} {ys : List Int} (h : FN N m ys) : ys.length ≤ (dg 10 N).length := by
  unfold FN at h
  rw [← h, List.length_append]; omega

set_option maxHeartbeats 4000000 in
set_option maxRecDepth 100000 in
theorem rfrom_any (n : Int) (h0 : -9223372036854775808 ≤ n) (h1 : n ≤ 9223372036854775807) (w : World) : Calls Tryz.prog 20 #[.int .i64 n] w (RetZ w (tx n)) := by
  have hlN : Hid ((dg 10 n.natAbs).length ≤ 19) := Lib.hid (dg_len (by omega) 19 _ (by omega))
  have hsg := Lib.hid (sgn_self n)
  have TX := Lib.hid (fun v w hv => rtext_any (decide (n < 0)) n.natAbs v w hv)
  by_cases hn : n < 0
  · rw [decide_eq_true hn] at hsg TX
    go_enter Tryz.func20, Tryz.ntmps20
    go_wp2
    go_loopg [3, 4, 5] n.natAbs (fun kx s3 s4 s5 wr => ∃ (m : Int) (ys : List Int), s4 = .int .i64 m ∧ m ≤ 0 ∧ -9223372036854775808 ≤ m ∧ m.natAbs ≤ kx ∧ Hid (FN n.natAbs m ys) ∧ wr.ownsRow w.heap.size 3 1 s3 ys.length (ys.map (Value.int .i64)) ∧ Below w.heap.size w wr)
    case atStart => exact ⟨n, [], rfl, by omega, by omega, Nat.le_refl _, Lib.hid rfl, World.ownsRow_nil _ _ _ _, Below.refl _ _⟩
    case round =>
      obtain ⟨m, ys, rfl, hm0, hm1, hkx, hF, hown, hnx⟩ := hrel
      have hyl : ys.length ≤ 1000000 := by have := hF.out.len; have := hlN.out; omega
      by_cases hz : m = 0
      · subst hz
        have HR := Lib.hid (Rd.own hown hyl)
        have HE := Lib.hid hF.out.done
        clear hown
        go_wp2_with (go_at_call 52; (with_reducible refine (TX.out _ _ (HE.out ▸ HR.out)).mono ?_); rintro e w2 ⟨rfl, hb2⟩)
        go_ret
        exact ⟨by rw [hsg.out]; rfl, below_up hnx hb2⟩
      · have hb0 : (m == 0) = false := by rw [beq_eq_false_iff_ne]; exact hz
        have hb1 : (m != 0) = true := by rw [bne_iff_ne]; exact hz
        obtain ⟨k, rfl⟩ : ∃ k : Nat, m = -(k : Int) := ⟨m.natAbs, by omega⟩
        have et : (-(k : Int)).tmod 10 = -((k : Int) % 10) := by rw [Int.neg_tmod, Int.tmod_eq_emod_of_nonneg (by omega)]
        have ed : (-(k : Int)).tdiv 10 = -((k : Int) / 10) := by rw [Int.neg_tdiv, Int.tdiv_eq_ediv_of_nonneg (by omega)]
        have hst := Lib.hid (fun d hd => hF.out.step (m2 := -((k : Int) / 10)) (d := d) hz (by omega) hd)
        have HOWN := Lib.hid hown
        clear hown
        rcases Nat.eq_zero_or_pos (k % 10) with hd | hd
        · have hd1 : (k : Int) % 10 = 0 := by omega
          have hnew := Lib.hid (hst.out 0 (by omega))
          clear hd
          go_wp2_with (at_builtin; refine app_int rfl (.tmp 19) (.tmp 21) rfl w.heap.size _ ys 0 rfl HOWN.out rfl hyl hnx.size ?_; intro v' w3 hown3 hb3)
          go_roundg (k / 10)
          case measure => omega
          case rel => exact ⟨-((k : Int) / 10), ys ++ [0], by go_num, by omega, by omega, by omega, hnew, hown3, hb3 _ _ hnx (Nat.le_refl _)⟩
        · have hd1 : -((k : Int) % 10) < 0 := by omega
          have hnew := Lib.hid (hst.out ((k : Int) % 10) (by omega))
          have hw1 : IntKind.i64.wrap ((k : Int) % 10) = (k : Int) % 10 := IntWalk.i64_in _ (by omega)
          clear hd
          go_wp2_with (at_builtin; refine app_int rfl (.tmp 19) (.tmp 21) rfl w.heap.size _ ys ((k : Int) % 10) rfl HOWN.out rfl hyl hnx.size ?_; intro v' w3 hown3 hb3)
          go_roundg (k / 10)
          case measure => omega
          case rel => exact ⟨-((k : Int) / 10), ys ++ [(k : Int) % 10], by go_num, by omega, by omega, by omega, hnew, hown3, hb3 _ _ hnx (Nat.le_refl _)⟩
  · rw [decide_eq_false hn] at hsg TX
    have hn' : 0 ≤ n := by omega
    have hnf : ¬ n < 0 := hn
    go_enter Tryz.func20, Tryz.ntmps20
    go_wp2
    go_loopg [3, 4, 5] n.natAbs (fun kx s3 s4 s5 wr => ∃ (m : Int) (ys : List Int), s4 = .int .i64 m ∧ 0 ≤ m ∧ m ≤ 9223372036854775807 ∧ m.natAbs ≤ kx ∧ Hid (FN n.natAbs m ys) ∧ wr.ownsRow w.heap.size 3 1 s3 ys.length (ys.map (Value.int .i64)) ∧ Below w.heap.size w wr)
    case atStart => exact ⟨n, [], rfl, by omega, by omega, Nat.le_refl _, Lib.hid rfl, World.ownsRow_nil _ _ _ _, Below.refl _ _⟩
    case round =>
      obtain ⟨m, ys, rfl, hm0, hm1, hkx, hF, hown, hnx⟩ := hrel
      have hyl : ys.length ≤ 1000000 := by have := hF.out.len; have := hlN.out; omega
      by_cases hz : m = 0
      · subst hz
        have HR := Lib.hid (Rd.own hown hyl)
        have HE := Lib.hid hF.out.done
        clear hown
        have hnf2 : decide (n < 0) = false := decide_eq_false (by omega)
        go_wp2_with (go_at_call 52; (with_reducible refine (TX.out _ _ (HE.out ▸ HR.out)).mono ?_); rintro e w2 ⟨rfl, hb2⟩)
        go_ret
        exact ⟨by rw [hsg.out]; rfl, below_up hnx hb2⟩
      · have hb0 : (m == 0) = false := by rw [beq_eq_false_iff_ne]; exact hz
        have hb1 : (m != 0) = true := by rw [bne_iff_ne]; exact hz
        have hst := Lib.hid (hF.out.step (m2 := m / 10) (d := m % 10) hz (by omega) (by omega))
        have hd1 : ¬ m % 10 < 0 := by omega
        have HOWN := Lib.hid hown
        clear hown
        go_wp2_with (at_builtin; refine app_int rfl (.tmp 19) (.tmp 21) rfl w.heap.size _ ys (m % 10) rfl HOWN.out rfl hyl hnx.size ?_; intro v' w3 hown3 hb3)
        go_roundg (m / 10).natAbs
        case measure => omega
        case rel => exact ⟨m / 10, ys ++ [m % 10], by go_num, by omega, by omega, by omega, hst, hown3, hb3 _ _ hnx (Nat.le_refl _)⟩

end Go.Proofs.YtnioinccflmdjaaGreatDoor

namespace Go.Proofs.YtnioinccflmdjaaGreatDoor
open Go.RowKit Num
open Go.Shelf

theorem dval_take_succ {l : List UInt8} {i : Nat} (h : i < l.length) : dval (l.take (i + 1)) = 10 * dval (l.take i) + (l[i].toNat - 48) := by
  rw [List.take_succ_eq_append_getElem h, dval_snoc]
theorem dval_take_le (l : List UInt8) (i : Nat) : dval (l.take i) ≤ dval l := by
  have h := dval_append (l.take i) (l.drop i)
  rw [List.take_append_drop] at h
  rw [h]
  have : 1 ≤ 10 ^ (l.drop i).length := Nat.pow_pos (by omega)
  have := Nat.mul_le_mul_left (dval (l.take i)) this
  omega
theorem dec_get {k : Nat} {i : Nat} (h : i < (Lib.decDigits k).length) : 48 ≤ (Lib.decDigits k)[i].toNat ∧ (Lib.decDigits k)[i].toNat ≤ 57 := by
  have h1 := List.all_eq_true.1 (dec_isD k) _ (List.getElem_mem h)
  simpa [isD] using h1
theorem lit_min : Is ⟨#[45, 57, 50, 50, 51, 51, 55, 50, 48, 51, 54, 56, 53, 52, 55, 55, 53, 56, 48, 56]⟩ (-9223372036854775808) := by unfold Is; kernel_rfl
theorem lit_max : Is ⟨#[57, 50, 50, 51, 51, 55, 50, 48, 51, 54, 56, 53, 52, 55, 55, 53, 56, 48, 55]⟩ 9223372036854775807 := by unfold Is; kernel_rfl
theorem rcmp_is {s t : ByteArray} {a b c : Int} (hs : Is s a) (ht : Is t b) (h : Lib.compareInt a b = c) (w : World) :
    Calls Tryz.prog 67 #[.string s, .string t] w (RetI w c) := by
  refine (rcompare_any s t (by have := hs.size; omega) (by have := ht.size; omega) w).mono fun e w' k => ?_
  unfold cmpI at k
  rw [show rdI s = some a from hs, show rdI t = some b from ht] at k
  simp only [h] at k
  exact k

set_option maxHeartbeats 4000000 in
set_option maxRecDepth 100000 in
theorem rtoInt_any (s : ByteArray) (hs : s.size ≤ 9223372036854775807) (w : World) : Calls Tryz.prog 43 #[.string s] w (RetN2 w (toI s).1 (toI s).2) := by
  cases h : rdI s with
  | none =>
    rw [show toI s = (0, 30) by unfold toI; rw [h]]
    have V1 := Lib.hid (fun w => rvalid_none hs h w)
    clear h hs
    go_enter Tryz.func43, Tryz.ntmps43
    go_wp2_with (go_at_call 53; (with_reducible refine (V1.out _).mono ?_); rintro e w1 ⟨rfl, hb1⟩)
    go_ret2
    exact ⟨rfl, hb1⟩
  | some z =>
    have hz : Is s z := h
    have V1 := Lib.hid (fun w => rvalid_some h w)
    by_cases hlo : z < -9223372036854775808
    · rw [show toI s = (0, 30) by unfold toI; rw [h]; simp only; rw [if_neg (by omega)]]
      have C1 := Lib.hid (fun w => rcmp_is hz lit_min (cmp_lt hlo) w)
      clear h hs hz hlo
      go_enter Tryz.func43, Tryz.ntmps43
      go_wp2_with (first
        | (go_at_call 53; (with_reducible refine (V1.out _).mono ?_); rintro e w1 ⟨rfl, hb1⟩)
        | (go_at_call 67; (with_reducible refine (C1.out _).mono ?_); rintro e w2 ⟨rfl, hb2⟩))
      go_ret2
      exact ⟨rfl, below_up hb1 hb2⟩
    · have hc1 : ∃ c, ¬ c < 0 ∧ Hid (Lib.compareInt z (-9223372036854775808) = c) := ⟨_, by unfold Lib.compareInt; rw [if_neg hlo]; split <;> omega, Lib.hid rfl⟩
      obtain ⟨c1, hc1, hce1⟩ := hc1
      have C1 := Lib.hid (fun w => rcmp_is hz lit_min hce1.out w)
      by_cases hhi : 9223372036854775807 < z
      · rw [show toI s = (0, 30) by unfold toI; rw [h]; simp only; rw [if_neg (by omega)]]
        have C2 := Lib.hid (fun w => rcmp_is hz lit_max (cmp_gt hhi) w)
        clear h hs hz hlo hhi hce1
        go_enter Tryz.func43, Tryz.ntmps43
        go_wp2_with (first
          | (go_at_call 53; (with_reducible refine (V1.out _).mono ?_); rintro e w1 ⟨rfl, hb1⟩)
          | (go_at_call 67; (with_reducible refine (C1.out _).mono ?_); rintro e w2 ⟨rfl, hb2⟩)
          | (go_at_call 67; (with_reducible refine (C2.out _).mono ?_); rintro e w3 ⟨rfl, hb3⟩))
        go_ret2
        exact ⟨rfl, below_up hb1 (below_up hb2 hb3)⟩
      · rw [show toI s = (z, 0) by unfold toI; rw [h]; simp only; rw [if_pos (by omega)]]
        have hc2 : ∃ c, ¬ 0 < c ∧ Hid (Lib.compareInt z 9223372036854775807 = c) := ⟨_, by unfold Lib.compareInt; rw [if_neg hhi]; split <;> omega, Lib.hid rfl⟩
        obtain ⟨c2, hc2, hce2⟩ := hc2
        have C2 := Lib.hid (fun w => rcmp_is hz lit_max hce2.out w)
        have hsz := hz.size
        have hl : s.data.toList = Lib.itoa z := by rw [hz.eq]; rfl
        have hdv := dval_dec z.natAbs
        clear h hs hz hce1 hce2
        by_cases hn : z < 0
        · have hl2 : s.data.toList = 45 :: Lib.decDigits z.natAbs := by rw [hl, itoa_neg hn]
          have hss : s.size = (Lib.decDigits z.natAbs).length + 1 := by rw [ByteArray.size, ← Array.length_toList, hl2]; rfl
          have hs0 : 0 < s.size := by omega
          have h45 : s[0]'hs0 = 45 := by rw [← get_list]; simp [hl2]
          have h45' : (((s[0]'hs0).toNat : Int) == 45) = true := by rw [h45]; rfl
          have hget : Hid (∀ j (h : j < s.size), 0 < j → ∃ h2 : j - 1 < (Lib.decDigits z.natAbs).length, s[j]'h = (Lib.decDigits z.natAbs)[j - 1]) := Lib.hid (fun j h hj => by
            obtain ⟨q, rfl⟩ : ∃ q, j = q + 1 := ⟨j - 1, by omega⟩
            exact ⟨by omega, by rw [← get_list]; simp [hl2]⟩)
          have hfin : Hid (-((dval ((Lib.decDigits z.natAbs).take (s.size - 1)) : Nat) : Int) = z) := Lib.hid (by
            rw [hss, Nat.add_sub_cancel, List.take_length, hdv]; omega)
          have HDV := Lib.hid hdv
          have hkb : z.natAbs ≤ 9223372036854775808 := by omega
          clear hl hl2 hss h45 hdv hlo hhi hn
          generalize z.natAbs = k at *
          go_enter Tryz.func43, Tryz.ntmps43
          go_wp2_with (first
            | (go_at_call 53; (with_reducible refine (V1.out _).mono ?_); rintro e w1 ⟨rfl, hb1⟩)
            | (go_at_call 67; (with_reducible refine (C1.out _).mono ?_); rintro e w2 ⟨rfl, hb2⟩)
            | (go_at_call 67; (with_reducible refine (C2.out _).mono ?_); rintro e w3 ⟨rfl, hb3⟩))
          go_loopg [4, 5, 6] s.size (fun kx s4 s5 s6 wr => ∃ (i : Nat) (v : Int), s5 = .int .i64 i ∧ s4 = .int .i64 v ∧ Hid (v = -((dval ((Lib.decDigits k).take (i - 1)) : Nat) : Int)) ∧ i ≤ s.size ∧ s.size ≤ kx + i ∧ wr = w3)
          case atStart => exact ⟨0, 0, rfl, rfl, Lib.hid rfl, by omega, by omega, rfl⟩
          case round =>
            obtain ⟨i, v, rfl, rfl, hv, hi, hkx, rfl⟩ := hrel
            have hw1 : IntKind.i64.wrap ((i : Int) + 1) = (i : Int) + 1 := IntWalk.i64_in _ (by omega)
            by_cases hg : i < s.size
            · have hg' : (i : Int) < (s.size : Int) := by omega
              by_cases hi0 : i = 0
              · subst hi0
                go_wp2
                go_roundg (s.size - 1)
                case measure => omega
                case rel => exact ⟨1, v, by go_num, rfl, hv, by omega, by omega, rfl⟩
              · obtain ⟨h2, hgi⟩ := hget.out i hg (by omega)
                have hd := dec_get h2
                have hstep := dval_take_succ h2
                have hle := dval_take_le (Lib.decDigits k) (i - 1 + 1)
                rw [← hgi] at hd hstep
                rw [HDV.out] at hle
                obtain ⟨e, he⟩ : ∃ e : Int, ((s[i]'hg).toNat : Int) = 48 + e := ⟨((s[i]'hg).toNat : Int) - 48, by omega⟩
                have he0 : 0 ≤ e := by omega
                have he9 : e ≤ 9 := by omega
                have hvo := hv.out
                have hnew : Hid (10 * v + -e = -((dval ((Lib.decDigits k).take (i + 1 - 1)) : Nat) : Int)) := Lib.hid (by
                  rw [show i + 1 - 1 = i - 1 + 1 by omega]; omega)
                have hb1 : -9223372036854775808 ≤ 10 * v + -e := by omega
                have hb2 : -9223372036854775808 ≤ 10 * v := by omega
                have hb3 : v ≤ 0 := by omega
                have hn45 : ((48 + e : Int) == 45) = false := by rw [beq_eq_false_iff_ne]; omega
                have hu8 : IntKind.u8.wrap (48 + e - 48) = e := by rw [show 48 + e - 48 = e by omega]; exact IntWalk.u8_in _ (by omega)
                clear hd hstep hle hvo hgi h2
                go_wp2
                go_roundg (s.size - (i + 1))
                case measure => omega
                case rel => exact ⟨i + 1, 10 * v + -e, by go_num, by go_num, hnew, by omega, by omega, rfl⟩
            · obtain rfl : i = s.size := by omega
              have hv2 : Hid (v = z) := Lib.hid (by rw [hv.out, hfin.out])
              clear hg
              go_wp2
              go_ret2
              exact ⟨by rw [← hv2.out]; rfl, below_up hb1 (below_up hb2 hb3)⟩
        · have hl2 : s.data.toList = Lib.decDigits z.natAbs := by rw [hl, itoa_nonneg (by omega)]
          have hss : s.size = (Lib.decDigits z.natAbs).length := by rw [ByteArray.size, ← Array.length_toList, hl2]
          have hs0 : 0 < s.size := by have := List.length_pos_iff.2 (dec_ne z.natAbs); omega
          have hget : Hid (∀ j (h : j < s.size), ∃ h2 : j < (Lib.decDigits z.natAbs).length, s[j]'h = (Lib.decDigits z.natAbs)[j]) := Lib.hid (fun j h => ⟨by omega, by rw [← get_list]; simp [hl2]⟩)
          have hfin : Hid (((dval ((Lib.decDigits z.natAbs).take s.size) : Nat) : Int) = z) := Lib.hid (by
            rw [hss, List.take_length, hdv]; omega)
          have HDV := Lib.hid hdv
          have hkb : z.natAbs ≤ 9223372036854775807 := by omega
          clear hl hl2 hss hdv hlo hhi hn
          generalize z.natAbs = k at *
          have h45' : (((s[0]'hs0).toNat : Int) == 45) = false := by
            obtain ⟨h2, hgi⟩ := hget.out 0 hs0
            have hd := dec_get h2
            rw [← hgi] at hd
            rw [beq_eq_false_iff_ne]; omega
          go_enter Tryz.func43, Tryz.ntmps43
          go_wp2_with (first
            | (go_at_call 53; (with_reducible refine (V1.out _).mono ?_); rintro e w1 ⟨rfl, hb1⟩)
            | (go_at_call 67; (with_reducible refine (C1.out _).mono ?_); rintro e w2 ⟨rfl, hb2⟩)
            | (go_at_call 67; (with_reducible refine (C2.out _).mono ?_); rintro e w3 ⟨rfl, hb3⟩))
          go_loopg [4, 5, 6] s.size (fun kx s4 s5 s6 wr => ∃ (i : Nat) (v : Int), s5 = .int .i64 i ∧ s4 = .int .i64 v ∧ Hid (v = ((dval ((Lib.decDigits k).take i) : Nat) : Int)) ∧ i ≤ s.size ∧ s.size ≤ kx + i ∧ wr = w3)
          case atStart => exact ⟨0, 0, rfl, rfl, Lib.hid rfl, by omega, by omega, rfl⟩
          case round =>
            obtain ⟨i, v, rfl, rfl, hv, hi, hkx, rfl⟩ := hrel
            have hw1 : IntKind.i64.wrap ((i : Int) + 1) = (i : Int) + 1 := IntWalk.i64_in _ (by omega)
            by_cases hg : i < s.size
            · have hg' : (i : Int) < (s.size : Int) := by omega
              obtain ⟨h2, hgi⟩ := hget.out i hg
              have hd := dec_get h2
              have hstep := dval_take_succ h2
              have hle := dval_take_le (Lib.decDigits k) (i + 1)
              rw [← hgi] at hd hstep
              rw [HDV.out] at hle
              obtain ⟨e, he⟩ : ∃ e : Int, ((s[i]'hg).toNat : Int) = 48 + e := ⟨((s[i]'hg).toNat : Int) - 48, by omega⟩
              have he0 : 0 ≤ e := by omega
              have he9 : e ≤ 9 := by omega
              have hvo := hv.out
              have hnew : Hid (10 * v + e = ((dval ((Lib.decDigits k).take (i + 1)) : Nat) : Int)) := Lib.hid (by omega)
              have hb1 : 10 * v + e ≤ 9223372036854775807 := by omega
              have hb2 : 10 * v ≤ 9223372036854775807 := by omega
              have hb3 : 0 ≤ v := by omega
              have hn45 : ((48 + e : Int) == 45) = false := by rw [beq_eq_false_iff_ne]; omega
              have hu8 : IntKind.u8.wrap (48 + e - 48) = e := by rw [show 48 + e - 48 = e by omega]; exact IntWalk.u8_in _ (by omega)
              clear hd hstep hle hvo hgi h2
              go_wp2
              go_roundg (s.size - (i + 1))
              case measure => omega
              case rel => exact ⟨i + 1, 10 * v + e, by go_num, by go_num, hnew, by omega, by omega, rfl⟩
            · obtain rfl : i = s.size := by omega
              have hv2 : Hid (v = z) := Lib.hid (by rw [hv.out, hfin.out])
              clear hg
              go_wp2
              go_ret2
              exact ⟨by rw [← hv2.out]; rfl, below_up hb1 (below_up hb2 hb3)⟩

end Go.Proofs.YtnioinccflmdjaaGreatDoor

namespace Go.Proofs.YtnioinccflmdjaaGreatDoor
open Go.RowKit Num
open Go.Shelf

theorem tbox_x (w : World) (x y : ByteArray) : (w.alloc (.cells #[.string x, .string y] 23)).cell? ⟨w.heap.size, 0, none⟩ = some (.string x) := by simp
theorem tbox_y (w : World) (x y : ByteArray) : (w.alloc (.cells #[.string x, .string y] 23)).cell? ⟨w.heap.size, 1, none⟩ = some (.string y) := by simp
theorem rgcd_is {s t r : ByteArray} {a b c : Int} (hs : Is s a) (ht : Is t b) (hr : Is r c) (h : ((Int.gcd a b : Nat) : Int) = c) (w : World) :
    Calls Tryz.prog 71 #[.string s, .string t] w (RetSt w r) := by
  refine (rgcd_any s t (by have := hs.size; omega) (by have := ht.size; omega) w).mono fun e w' k => ?_
  rw [op2_ok hs ht] at k
  simp only [h] at k
  rw [outI_ok hr.small, ← hr.eq] at k
  exact k
theorem rdiv_is {s t q r : ByteArray} {a b c d : Int} (hs : Is s a) (ht : Is t b) (h0 : b ≠ 0) (hq : Is q c) (hr : Is r d) (h : a / b = c) (k : a % b = d) (w : World) :
    Calls Tryz.prog 66 #[.string s, .string t] w (RetD w q r) := by
  refine (rdiv_any s t (by have := hs.size; omega) (by have := ht.size; omega) w).mono fun e w' m => ?_
  have e1 : divI s t = (q, r, 0) := by
    unfold divI
    rw [show rdI s = some a from hs, show rdI t = some b from ht]
    simp only
    rw [if_neg h0, h, k, ← hq.eq, ← hr.eq]
  rw [e1] at m
  exact m
theorem rsub_is {s t r : ByteArray} {a b c : Int} (hs : Is s a) (ht : Is t b) (hr : Is r c) (h : a - b = c) (w : World) :
    Calls Tryz.prog 65 #[.string s, .string t] w (RetSt w r) := by
  refine (rsub_any s t (by have := hs.size; omega) (by have := ht.size; omega) w).mono fun e w' k => ?_
  rw [op2_ok hs ht] at k
  simp only [h] at k
  rw [outI_ok hr.small, ← hr.eq] at k
  exact k
theorem rmul_is {s t r : ByteArray} {a b c : Int} (hs : Is s a) (ht : Is t b) (hr : Is r c) (h : a * b = c) (w : World) :
    Calls Tryz.prog 21 #[.string s, .string t] w (RetSt w r) := by
  refine (rmul_any s t (by have := hs.size; omega) (by have := ht.size; omega) w).mono fun e w' k => ?_
  rw [op2_ok hs ht] at k
  simp only [h] at k
  rw [outI_ok hr.small, ← hr.eq] at k
  exact k
theorem rmul_over {s t : ByteArray} {a b : Int} (hs : Is s a) (ht : Is t b) (h : ¬ sm (a * b)) (w : World) :
    Calls Tryz.prog 21 #[.string s, .string t] w (RetE w) := by
  refine (rmul_any s t (by have := hs.size; omega) (by have := ht.size; omega) w).mono fun e w' k => ?_
  rw [op2_ok hs ht] at k
  simp only [outI_no h] at k
  exact k

set_option maxHeartbeats 2000000 in
set_option maxRecDepth 100000 in
theorem tvalid_any (x y : ByteArray) (hxs : x.size ≤ 9223372036854775807) (hys : y.size ≤ 9223372036854775807) (w : World) :
    Calls Tryz.prog 40 #[.agg #[.string x, .string y]] w (RetB w (okR x y)) := by
  have V1 := Lib.hid (fun w => rvalid_any x hxs w)
  have V2 := Lib.hid (fun w => rvalid_any y hys w)
  clear hxs hys
  cases hx : rdI x with
  | none =>
    rw [show okR x y = false by unfold okR; rw [hx]]
    rw [hx] at V1
    simp only [Option.isSome_none] at V1
    generalize (rdI y).isSome = b at *
    clear hx
    go_enter Tryz.func40, Tryz.ntmps40
    go_wp2_with (first
      | (go_at_call 53; (with_reducible refine (V1.out _).mono ?_); rintro e w1 ⟨rfl, hb1⟩; have cx := (hb1.cell (by simp)).trans (tbox_x w x y); have cy := (hb1.cell (by simp)).trans (tbox_y w x y))
      | (go_at_call 53; (with_reducible refine (V2.out _).mono ?_); rintro e w2 ⟨rfl, hb2⟩))
    go_ret
    exact ⟨rfl, below_up (below1 _ _) (below_up hb1 hb2)⟩
  | some n =>
    rw [hx] at V1
    simp only [Option.isSome_some] at V1
    cases hy : rdI y with
    | none =>
      rw [show okR x y = false by unfold okR; rw [hx, hy]]
      rw [hy] at V2
      simp only [Option.isSome_none] at V2
      clear hx hy
      go_enter Tryz.func40, Tryz.ntmps40
      go_wp2_with (first
        | (go_at_call 53; (with_reducible refine (V1.out _).mono ?_); rintro e w1 ⟨rfl, hb1⟩; have cx := (hb1.cell (by simp)).trans (tbox_x w x y); have cy := (hb1.cell (by simp)).trans (tbox_y w x y))
        | (go_at_call 53; (with_reducible refine (V2.out _).mono ?_); rintro e w2 ⟨rfl, hb2⟩))
      go_ret
      exact ⟨rfl, below_up (below1 _ _) (below_up hb1 hb2)⟩
    | some d =>
      rw [hy] at V2
      simp only [Option.isSome_some] at V2
      by_cases hd : 0 < d
      · have C := Lib.hid (fun w => rcmp_is (s := y) hy lit_0 (cmp_gt hd) w)
        have hgs : sm ((Int.gcd n d : Nat) : Int) := by
          have h1 : Int.gcd n d ≤ d.natAbs := by rw [Int.gcd_comm]; exact Int.gcd_le_natAbs_left _ (by omega)
          have h2 := rd_small hy
          unfold sm; rw [Int.natAbs_natCast]; omega
        obtain ⟨g, hg⟩ := Is.ex hgs
        have G := Lib.hid (fun w => rgcd_is (s := x) (t := y) hx hy hg rfl w)
        have hok : Hid (okR x y = (g.toList == [49])) := Lib.hid (by
          unfold okR; rw [hx, hy]
          simp only [decide_eq_true hd, Bool.true_and]
          by_cases k : Int.gcd n d = 1
          · rw [k]
            have : g = ⟨#[49]⟩ := hg.uniq (lit_1.cast (by omega))
            rw [this, ByteArray.toList_eq]; rfl
          · rw [decide_eq_false k]
            have := hg.differ lit_1 (by omega)
            rw [ByteArray.toList_eq (⟨#[49]⟩ : ByteArray)] at this
            exact this.symm)
        clear hx hy hd hgs hg
        go_enter Tryz.func40, Tryz.ntmps40
        go_wp2_with (first
          | (go_at_call 53; (with_reducible refine (V1.out _).mono ?_); rintro e w1 ⟨rfl, hb1⟩; have cx := (hb1.cell (by simp)).trans (tbox_x w x y); have cy := (hb1.cell (by simp)).trans (tbox_y w x y))
          | (go_at_call 53; (with_reducible refine (V2.out _).mono ?_); rintro e w2 ⟨rfl, hb2⟩; have cx := (hb2.cell (cell_lt cx)).trans cx; have cy := (hb2.cell (cell_lt cy)).trans cy)
          | (go_at_call 67; (with_reducible refine (C.out _).mono ?_); rintro e w3 ⟨rfl, hb3⟩; have cx := (hb3.cell (cell_lt cx)).trans cx; have cy := (hb3.cell (cell_lt cy)).trans cy)
          | (go_at_call 71; (with_reducible refine (G.out _).mono ?_); rintro e w4 ⟨rfl, hb4⟩))
        go_ret
        exact ⟨by rw [hok.out]; rfl, below_up (below1 _ _) (below_up hb1 (below_up hb2 (below_up hb3 hb4)))⟩
      · have hc : ∃ c, c ≤ 0 ∧ Hid (Lib.compareInt d 0 = c) := ⟨_, by unfold Lib.compareInt; split <;> (try split) <;> omega, Lib.hid rfl⟩
        obtain ⟨c, hc, hce⟩ := hc
        have C := Lib.hid (fun w => rcmp_is (s := y) hy lit_0 hce.out w)
        rw [show okR x y = false by unfold okR; rw [hx, hy]; simp only [decide_eq_false hd, Bool.false_and]]
        clear hx hy hd hce
        go_enter Tryz.func40, Tryz.ntmps40
        go_wp2_with (first
          | (go_at_call 53; (with_reducible refine (V1.out _).mono ?_); rintro e w1 ⟨rfl, hb1⟩; have cx := (hb1.cell (by simp)).trans (tbox_x w x y); have cy := (hb1.cell (by simp)).trans (tbox_y w x y))
          | (go_at_call 53; (with_reducible refine (V2.out _).mono ?_); rintro e w2 ⟨rfl, hb2⟩; have cx := (hb2.cell (cell_lt cx)).trans cx; have cy := (hb2.cell (cell_lt cy)).trans cy)
          | (go_at_call 67; (with_reducible refine (C.out _).mono ?_); rintro e w3 ⟨rfl, hb3⟩))
        go_ret
        exact ⟨rfl, below_up (below1 _ _) (below_up hb1 (below_up hb2 hb3))⟩

end Go.Proofs.YtnioinccflmdjaaGreatDoor

namespace Go.Proofs.YtnioinccflmdjaaGreatDoor
open Go.RowKit Num
open Go.Shelf

set_option maxHeartbeats 4000000 in
set_option maxRecDepth 100000 in
theorem tmake_any (x y : ByteArray) (hxs : x.size ≤ 9223372036854775807) (hys : y.size ≤ 9223372036854775807) (w : World) :
    Calls Tryz.prog 39 #[.string x, .string y] w (RetQ w (makeT x y)) := by
  have V1 := Lib.hid (fun w => rvalid_any x hxs w)
  have V2 := Lib.hid (fun w => rvalid_any y hys w)
  clear hxs hys
  cases hx : rdI x with
  | none =>
    rw [show makeT x y = none by unfold makeT; rw [hx]]
    rw [hx] at V1
    simp only [Option.isSome_none] at V1
    generalize (rdI y).isSome = b at *
    clear hx
    go_enter Tryz.func39, Tryz.ntmps39
    have hB := below1 w (.cells #[.string ⟨#[]⟩, .string ⟨#[]⟩] 23)
    have rb := RB.new w ⟨#[]⟩ ⟨#[]⟩
    go_wp2_with (first
      | (go_at_call 53; (with_reducible refine (V1.out _).mono ?_); rintro e w1 ⟨rfl, hb⟩; replace hB := below_up hB hb; replace rb := rb.below hb; clear hb; have r0 := rb.c0; have r1 := rb.c1; have f0 := rb.f0; have f1 := rb.f1)
      | (go_at_call 53; (with_reducible refine (V2.out _).mono ?_); rintro e w1 ⟨rfl, hb⟩; replace hB := below_up hB hb; replace rb := rb.below hb; clear hb; have r0 := rb.c0; have r1 := rb.c1; have f0 := rb.f0; have f1 := rb.f1))
    have RBF := rb.set ⟨#[]⟩ ⟨#[]⟩
    have e0 := RBF.c0
    have e1 := RBF.c1
    refine bodyPost_ret (v := .tuple #[.agg #[.string ⟨#[]⟩, .string ⟨#[]⟩], .int .i64 40]) (by simp [results, Tryz.results39, go_sem, e0, e1]) rfl ⟨rfl, below_new2 hB (Nat.le_refl _)⟩
  | some n =>
    rw [hx] at V1
    simp only [Option.isSome_some] at V1
    cases hy : rdI y with
    | none =>
      rw [show makeT x y = none by unfold makeT; rw [hx, hy]]
      rw [hy] at V2
      simp only [Option.isSome_none] at V2
      clear hx hy
      go_enter Tryz.func39, Tryz.ntmps39
      have hB := below1 w (.cells #[.string ⟨#[]⟩, .string ⟨#[]⟩] 23)
      have rb := RB.new w ⟨#[]⟩ ⟨#[]⟩
      go_wp2_with (first
        | (go_at_call 53; (with_reducible refine (V1.out _).mono ?_); rintro e w1 ⟨rfl, hb⟩; replace hB := below_up hB hb; replace rb := rb.below hb; clear hb; have r0 := rb.c0; have r1 := rb.c1; have f0 := rb.f0; have f1 := rb.f1)
        | (go_at_call 53; (with_reducible refine (V2.out _).mono ?_); rintro e w1 ⟨rfl, hb⟩; replace hB := below_up hB hb; replace rb := rb.below hb; clear hb; have r0 := rb.c0; have r1 := rb.c1; have f0 := rb.f0; have f1 := rb.f1))
      have RBF := rb.set ⟨#[]⟩ ⟨#[]⟩
      have e0 := RBF.c0
      have e1 := RBF.c1
      refine bodyPost_ret (v := .tuple #[.agg #[.string ⟨#[]⟩, .string ⟨#[]⟩], .int .i64 40]) (by simp [results, Tryz.results39, go_sem, e0, e1]) rfl ⟨rfl, below_new2 hB (Nat.le_refl _)⟩
    | some d =>
      rw [show makeT x y = makeQ n d by unfold makeT; rw [hx, hy]]
      rw [hy] at V2
      simp only [Option.isSome_some] at V2
      have hn : Is x n := hx
      have hd : Is y d := hy
      clear hx hy
      by_cases h0 : d = 0
      · subst h0
        obtain rfl : y = ⟨#[48]⟩ := hd.uniq lit_0
        rw [show makeQ n 0 = none from rfl]
        clear hn hd
        go_enter Tryz.func39, Tryz.ntmps39
        have hB := below1 w (.cells #[.string ⟨#[]⟩, .string ⟨#[]⟩] 23)
        have rb := RB.new w ⟨#[]⟩ ⟨#[]⟩
        go_wp2_with (first
          | (go_at_call 53; (with_reducible refine (V1.out _).mono ?_); rintro e w1 ⟨rfl, hb⟩; replace hB := below_up hB hb; replace rb := rb.below hb; clear hb; have r0 := rb.c0; have r1 := rb.c1; have f0 := rb.f0; have f1 := rb.f1)
          | (go_at_call 53; (with_reducible refine (V2.out _).mono ?_); rintro e w1 ⟨rfl, hb⟩; replace hB := below_up hB hb; replace rb := rb.below hb; clear hb; have r0 := rb.c0; have r1 := rb.c1; have f0 := rb.f0; have f1 := rb.f1))
        have RBF := rb.set ⟨#[]⟩ ⟨#[]⟩
        have e0 := RBF.c0
        have e1 := RBF.c1
        refine bodyPost_ret (v := .tuple #[.agg #[.string ⟨#[]⟩, .string ⟨#[]⟩], .int .i64 40]) (by simp [results, Tryz.results39, go_sem, e0, e1]) rfl ⟨rfl, below_new2 hB (Nat.le_refl _)⟩
      · have hd0 : (y.toList == [48]) = false := hd.differ0 h0
        rw [show makeQ n d = some (Rat.divInt n d) by unfold makeQ; rw [if_neg h0]]
        obtain ⟨hs1, hs2⟩ := divInt_small hn.small hd.small h0
        obtain ⟨X, hX⟩ := Is.ex hs1
        obtain ⟨Y, hY⟩ := Is.ex hs2
        have hXe : Hid (numT (some (Rat.divInt n d)) = X) := Lib.hid hX.eq.symm
        have hYe : Hid (denT (some (Rat.divInt n d)) = Y) := Lib.hid hY.eq.symm
        have key : ∀ (s t : ByteArray) (a b : Int), Is s a → Is t b → 0 < b → Rat.divInt a b = Rat.divInt n d → ∃ g, Hid (∀ W, Calls Tryz.prog 71 #[.string s, .string t] W (RetSt W g)) ∧
            Hid (∀ W, Calls Tryz.prog 66 #[.string s, .string g] W (RetD W X ⟨#[48]⟩)) ∧ Hid (∀ W, Calls Tryz.prog 66 #[.string t, .string g] W (RetD W Y ⟨#[48]⟩)) := by
          intro s t a b hs ht hb he
          have hgp : 0 < Int.gcd a b := Nat.pos_of_ne_zero fun e => by have := (Int.gcd_eq_zero_iff.1 e).2; omega
          have hgs : sm ((Int.gcd a b : Nat) : Int) := by
            have h1 : Int.gcd a b ≤ b.natAbs := by rw [Int.gcd_comm]; exact Int.gcd_le_natAbs_left _ (by omega)
            have h2 := ht.small
            unfold sm at h2 ⊢; rw [Int.natAbs_natCast]; omega
          obtain ⟨g, hg⟩ := Is.ex hgs
          obtain ⟨e1, e2⟩ := red_pos (n := a) hb
          rw [he] at e1 e2
          have z1 : a % ((Int.gcd a b : Nat) : Int) = 0 := Int.emod_eq_zero_of_dvd (Int.gcd_dvd_left _ _)
          have z2 : b % ((Int.gcd a b : Nat) : Int) = 0 := Int.emod_eq_zero_of_dvd (Int.gcd_dvd_right _ _)
          exact ⟨g, Lib.hid (fun W => rgcd_is hs ht hg rfl W), Lib.hid (fun W => rdiv_is hs hg (by omega) hX lit_0 e1 z1 W), Lib.hid (fun W => rdiv_is ht hg (by omega) hY lit_0 e2 z2 W)⟩
        by_cases hpos : 0 < d
        · obtain ⟨g, G, D1, D2⟩ := key x y n d hn hd hpos rfl
          have C := Lib.hid (fun w => rcmp_is hd lit_0 (cmp_gt hpos) w)
          clear key hn hd hX hY hs1 hs2 hpos h0
          go_enter Tryz.func39, Tryz.ntmps39
          have hB := below1 w (.cells #[.string ⟨#[]⟩, .string ⟨#[]⟩] 23)
          have rb := RB.new w ⟨#[]⟩ ⟨#[]⟩
          go_wp2_with (first
            | (go_at_call 53; (with_reducible refine (V1.out _).mono ?_); rintro e w1 ⟨rfl, hb⟩; replace hB := below_up hB hb; replace rb := rb.below hb; clear hb; have r0 := rb.c0; have r1 := rb.c1; have f0 := rb.f0; have f1 := rb.f1)
            | (go_at_call 53; (with_reducible refine (V2.out _).mono ?_); rintro e w1 ⟨rfl, hb⟩; replace hB := below_up hB hb; replace rb := rb.below hb; clear hb; have r0 := rb.c0; have r1 := rb.c1; have f0 := rb.f0; have f1 := rb.f1)
            | (go_at_call 67; (with_reducible refine (C.out _).mono ?_); rintro e w1 ⟨rfl, hb⟩; replace hB := below_up hB hb; replace rb := rb.below hb; clear hb; have r0 := rb.c0; have r1 := rb.c1; have f0 := rb.f0; have f1 := rb.f1)
            | (go_at_call 71; (with_reducible refine (G.out _).mono ?_); rintro e w1 ⟨rfl, hb⟩; replace hB := below_up hB hb; replace rb := rb.below hb; clear hb; have r0 := rb.c0; have r1 := rb.c1; have f0 := rb.f0; have f1 := rb.f1)
            | (go_at_call 66; (with_reducible refine (D1.out _).mono ?_); rintro e w1 ⟨rfl, hb⟩; replace hB := below_up hB hb; replace rb := rb.below hb; clear hb; have r0 := rb.c0; have r1 := rb.c1; have f0 := rb.f0; have f1 := rb.f1)
            | (go_at_call 66; (with_reducible refine (D2.out _).mono ?_); rintro e w1 ⟨rfl, hb⟩; replace hB := below_up hB hb; replace rb := rb.below hb; clear hb; have r0 := rb.c0; have r1 := rb.c1; have f0 := rb.f0; have f1 := rb.f1))
          have RBF := rb.set X Y
          have e0 := RBF.c0
          have e1 := RBF.c1
          refine bodyPost_ret (v := .tuple #[.agg #[.string X, .string Y], .int .i64 0]) (by simp [results, Tryz.results39, go_sem, e0, e1]) rfl ⟨by rw [hXe.out, hYe.out]; rfl, below_new2 hB (Nat.le_refl _)⟩
        · have hneg : d < 0 := by omega
          have hns := hn.small
          have hds := hd.small
          obtain ⟨N', hN'⟩ := Is.ex (z := 0 - n) (by unfold sm at hns ⊢; omega)
          obtain ⟨D', hD'⟩ := Is.ex (z := 0 - d) (by unfold sm at hds ⊢; omega)
          have S1 := Lib.hid (fun w => rsub_is lit_0 hn hN' rfl w)
          have S2 := Lib.hid (fun w => rsub_is lit_0 hd hD' rfl w)
          obtain ⟨g, G, D1, D2⟩ := key N' D' (0 - n) (0 - d) hN' hD' (by omega) (divInt_flip n h0)
          have C := Lib.hid (fun w => rcmp_is hd lit_0 (cmp_lt hneg) w)
          clear key hn hd hX hY hs1 hs2 hpos h0 hneg hns hds hN' hD'
          go_enter Tryz.func39, Tryz.ntmps39
          have hB := below1 w (.cells #[.string ⟨#[]⟩, .string ⟨#[]⟩] 23)
          have rb := RB.new w ⟨#[]⟩ ⟨#[]⟩
          go_wp2_with (first
            | (go_at_call 53; (with_reducible refine (V1.out _).mono ?_); rintro e w1 ⟨rfl, hb⟩; replace hB := below_up hB hb; replace rb := rb.below hb; clear hb; have r0 := rb.c0; have r1 := rb.c1; have f0 := rb.f0; have f1 := rb.f1)
            | (go_at_call 53; (with_reducible refine (V2.out _).mono ?_); rintro e w1 ⟨rfl, hb⟩; replace hB := below_up hB hb; replace rb := rb.below hb; clear hb; have r0 := rb.c0; have r1 := rb.c1; have f0 := rb.f0; have f1 := rb.f1)
            | (go_at_call 67; (with_reducible refine (C.out _).mono ?_); rintro e w1 ⟨rfl, hb⟩; replace hB := below_up hB hb; replace rb := rb.below hb; clear hb; have r0 := rb.c0; have r1 := rb.c1; have f0 := rb.f0; have f1 := rb.f1)
            | (go_at_call 65; (with_reducible refine (S1.out _).mono ?_); rintro e w1 ⟨rfl, hb⟩; replace hB := below_up hB hb; replace rb := rb.below hb; clear hb; have r0 := rb.c0; have r1 := rb.c1; have f0 := rb.f0; have f1 := rb.f1)
            | (go_at_call 65; (with_reducible refine (S2.out _).mono ?_); rintro e w1 ⟨rfl, hb⟩; replace hB := below_up hB hb; replace rb := rb.below hb; clear hb; have r0 := rb.c0; have r1 := rb.c1; have f0 := rb.f0; have f1 := rb.f1)
            | (go_at_call 71; (with_reducible refine (G.out _).mono ?_); rintro e w1 ⟨rfl, hb⟩; replace hB := below_up hB hb; replace rb := rb.below hb; clear hb; have r0 := rb.c0; have r1 := rb.c1; have f0 := rb.f0; have f1 := rb.f1)
            | (go_at_call 66; (with_reducible refine (D1.out _).mono ?_); rintro e w1 ⟨rfl, hb⟩; replace hB := below_up hB hb; replace rb := rb.below hb; clear hb; have r0 := rb.c0; have r1 := rb.c1; have f0 := rb.f0; have f1 := rb.f1)
            | (go_at_call 66; (with_reducible refine (D2.out _).mono ?_); rintro e w1 ⟨rfl, hb⟩; replace hB := below_up hB hb; replace rb := rb.below hb; clear hb; have r0 := rb.c0; have r1 := rb.c1; have f0 := rb.f0; have f1 := rb.f1))
          have RBF := rb.set X Y
          have e0 := RBF.c0
          have e1 := RBF.c1
          refine bodyPost_ret (v := .tuple #[.agg #[.string X, .string Y], .int .i64 0]) (by simp [results, Tryz.results39, go_sem, e0, e1]) rfl ⟨by rw [hXe.out, hYe.out]; rfl, below_new2 hB (Nat.le_refl _)⟩

end Go.Proofs.YtnioinccflmdjaaGreatDoor
