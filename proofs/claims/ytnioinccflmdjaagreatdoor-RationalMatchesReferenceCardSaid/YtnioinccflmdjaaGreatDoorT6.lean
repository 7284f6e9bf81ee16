/- workpieceref04: zeroOr, Compare. Conditions: sizes. -/
import Derived.Test.YtnioinccflmdjaaGreatDoorT5
import Derived.Test.YtnioinccflmdjaaGreatDoorK9
namespace Go.Proofs.YtnioinccflmdjaaGreatDoor
open Go.RowKit Num
open Go.Shelf

set_option maxRecDepth 100000 in
theorem zo_zero (w : World) : Calls Tryz.prog 68 #[.string ⟨#[48]⟩] w (RetS1 w ⟨#[48]⟩) := by
  go_enter Tryz.func68, Tryz.ntmps68
  go_wp2
  go_ret
  exact ⟨rfl, Below.refl _ _⟩
set_option maxRecDepth 100000 in
theorem zo_one (s : ByteArray) (h : (s.toList == [48]) = false) (w : World) : Calls Tryz.prog 68 #[.string s] w (RetS1 w ⟨#[49]⟩) := by
  go_enter Tryz.func68, Tryz.ntmps68
  go_wp2
  go_ret
  exact ⟨rfl, Below.refl _ _⟩

/-- What holds at the head of a round. -/
def CT (ans : Int) (x y u v : ByteArray) (sgn : Int) (left : Nat) : Prop := ∃ n d m c : Int, Is x n ∧ Is y d ∧ 0 < d ∧ Is u m ∧ Is v c ∧ 0 < c ∧ sgn * cmpQ n d m c = ans ∧ d.toNat ≤ left
theorem cmp_val (a b : Int) : Lib.compareInt a b = -1 ∧ a < b ∨ Lib.compareInt a b = 0 ∧ a = b ∨ Lib.compareInt a b = 1 ∧ b < a := by
  unfold Lib.compareInt
  by_cases h : a < b
  · left; rw [if_pos h]; exact ⟨rfl, h⟩
  · by_cases h2 : b < a
    · right; right; rw [if_neg h, if_pos h2]; exact ⟨rfl, h2⟩
    · right; left; rw [if_neg h, if_neg h2]; exact ⟨rfl, by omega⟩

set_option maxHeartbeats 8000000 in
set_option maxRecDepth 100000 in
theorem tcompare_walk (x y u v : ByteArray) (p q : Rat) (hp : Fr x y p) (hq : Fr u v q) (w : World) :
    Calls Tryz.prog 34 #[.agg #[.string x, .string y], .agg #[.string u, .string v]] w (RetI w (cmpR p q)) := by
  have VA := Lib.hid (fun w => tvalid_any x y (by have := hp.1.size; omega) (by have := hp.2.size; omega) w)
  have VB := Lib.hid (fun w => tvalid_any u v (by have := hq.1.size; omega) (by have := hq.2.size; omega) w)
  rw [hp.ok] at VA
  rw [hq.ok] at VB
  have H0 : Hid (CT (cmpR p q) x y u v 1 p.den) := Lib.hid ⟨p.num, p.den, q.num, q.den, hp.1, hp.2, by have := p.den_pos; omega, hq.1, hq.2, by have := q.den_pos; omega, by unfold cmpR; omega, by omega⟩
  generalize p.den = K0 at *
  generalize cmpR p q = ans at *
  have hB := below_up (below1 w (.cells #[.string x, .string y] 23)) (below1 _ (.cells #[.string u, .string v] 23))
  have BA := (Blk.new w 23 [.string x, .string y]).alloc (.cells #[.string u, .string v] 23)
  have BB := Blk.new2 w (.cells #[.string x, .string y] 23) 23 [.string u, .string v]
  clear hp hq
  go_enter Tryz.func34, Tryz.ntmps34
  go_wp2_with (first
    | (go_at_call 40; (with_reducible refine (VA.out _).mono ?_); rintro e w1 ⟨rfl, hb⟩; replace BA := BA.below hb; replace BB := BB.below hb; replace hB := below_up hB hb; clear hb; have b0 := BB.cell 0 (v := .string u) rfl; have b1 := BB.cell 1 (v := .string v) rfl)
    | (go_at_call 40; (with_reducible refine (VB.out _).mono ?_); rintro e w2 ⟨rfl, hb⟩; replace BA := BA.below hb; replace BB := BB.below hb; replace hB := below_up hB hb; clear hb b0 b1; have b0 := BB.cell 0 (v := .string u) rfl; have b1 := BB.cell 1 (v := .string v) rfl; have a0 := BA.cell 0 (v := .string x) rfl; have a1 := BA.cell 1 (v := .string y) rfl))
  clear VA VB BA BB b0 b1 a0 a1
  go_loopg [7, 8, 9, 10, 11] K0 (fun kx s7 s8 s9 s10 s11 wr => ∃ (x y u v : ByteArray) (sgn : Int), s7 = .int .i64 sgn ∧ s8 = .string x ∧ s9 = .string y ∧ s10 = .string u ∧ s11 = .string v ∧ (sgn = 1 ∨ sgn = -1) ∧ Hid (CT ans x y u v sgn kx) ∧ Below w.heap.size w wr)
  case atStart => exact ⟨x, y, u, v, 1, rfl, rfl, rfl, rfl, rfl, .inl rfl, H0, hB⟩
  case round =>
    clear hB H0
    obtain ⟨x, y, u, v, sgn, rfl, rfl, rfl, rfl, rfl, hsg, HC, hB⟩ := hrel
    obtain ⟨n, d, m, c, hx, hy, hd, hu, hv, hc, hans, hkx⟩ := HC.out
    have hnd : sm (n / d) := Nat.lt_of_le_of_lt (Int.natAbs_ediv_le_natAbs _ _) hx.small
    have hmc : sm (m / c) := Nat.lt_of_le_of_lt (Int.natAbs_ediv_le_natAbs _ _) hu.small
    have n0 := Int.emod_nonneg n (show d ≠ 0 by omega)
    have n1 := Int.emod_lt_of_pos n hd
    have m0 := Int.emod_nonneg m (show c ≠ 0 by omega)
    have m1 := Int.emod_lt_of_pos m hc
    have hnr : sm (n % d) := by have := hy.small; unfold sm at this ⊢; omega
    have hmr : sm (m % c) := by have := hv.small; unfold sm at this ⊢; omega
    obtain ⟨P, hP⟩ := Is.ex hnd
    obtain ⟨Q, hQ⟩ := Is.ex hmc
    obtain ⟨R, hR⟩ := Is.ex hnr
    obtain ⟨S, hS⟩ := Is.ex hmr
    have D1 := Lib.hid (fun w => rdiv_is hx hy (by omega) hP hR rfl rfl w)
    have D2 := Lib.hid (fun w => rdiv_is hu hv (by omega) hQ hS rfl rfl w)
    obtain ⟨cw, hcw⟩ : ∃ k, Lib.compareInt (n / d) (m / c) = k := ⟨_, rfl⟩
    have CW := Lib.hid (fun w => rcmp_is hP hQ hcw w)
    rcases cmp_val (n / d) (m / c) with ⟨e1, e2⟩ | ⟨e1, e2⟩ | ⟨e1, e2⟩
    · obtain rfl : cw = -1 := hcw.symm.trans e1
      have hw := cmpQ_whole hd hc (show n / d ≠ m / c by omega)
      rw [hw, e1] at hans
      clear HC hx hy hu hv hnd hmc hnr hmr hP hQ hR hS hcw n0 n1 m0 m1 e1 e2 hw hd hc hkx
      rcases hsg with rfl | rfl
      · obtain rfl : ans = -1 := by omega
        clear hans
        go_wp2_with (first
          | (go_at_call 66; (with_reducible refine (D1.out _).mono ?_); rintro e w3 ⟨rfl, hb⟩; replace hB := below_up hB hb; clear hb)
          | (go_at_call 66; (with_reducible refine (D2.out _).mono ?_); rintro e w4 ⟨rfl, hb⟩; replace hB := below_up hB hb; clear hb)
          | (go_at_call 67; (with_reducible refine (CW.out _).mono ?_); rintro e w5 ⟨rfl, hb⟩; replace hB := below_up hB hb; clear hb))
        go_ret
        exact ⟨rfl, hB⟩
      · obtain rfl : ans = 1 := by omega
        clear hans
        go_wp2_with (first
          | (go_at_call 66; (with_reducible refine (D1.out _).mono ?_); rintro e w3 ⟨rfl, hb⟩; replace hB := below_up hB hb; clear hb)
          | (go_at_call 66; (with_reducible refine (D2.out _).mono ?_); rintro e w4 ⟨rfl, hb⟩; replace hB := below_up hB hb; clear hb)
          | (go_at_call 67; (with_reducible refine (CW.out _).mono ?_); rintro e w5 ⟨rfl, hb⟩; replace hB := below_up hB hb; clear hb))
        go_ret
        exact ⟨rfl, hB⟩
    · obtain rfl : cw = 0 := hcw.symm.trans e1
      by_cases r0 : n % d = 0
      · by_cases s0 : m % c = 0
        · rw [cmpQ_rest0 hd hc e2 r0 s0] at hans
          obtain rfl : R = ⟨#[48]⟩ := hR.uniq (lit_0.cast r0.symm)
          obtain rfl : S = ⟨#[48]⟩ := hS.uniq (lit_0.cast s0.symm)
          have CZ := Lib.hid (fun w => rcmp_is lit_0 lit_0 (cmp_eq rfl) w)
          clear r0 s0
          clear HC hx hy hu hv hnd hmc hnr hmr hP hQ hR hS hcw n0 n1 m0 m1 e1 e2 hd hc hkx
          rcases hsg with rfl | rfl
          · obtain rfl : ans = 0 := by omega
            clear hans
            go_wp2_with (first
              | (go_at_call 66; (with_reducible refine (D1.out _).mono ?_); rintro e w3 ⟨rfl, hb⟩; replace hB := below_up hB hb; clear hb)
              | (go_at_call 66; (with_reducible refine (D2.out _).mono ?_); rintro e w4 ⟨rfl, hb⟩; replace hB := below_up hB hb; clear hb)
              | (go_at_call 67; (with_reducible refine (CW.out _).mono ?_); rintro e w5 ⟨rfl, hb⟩; replace hB := below_up hB hb; clear hb)
              | (go_at_call 68; (with_reducible refine (zo_zero _).mono ?_); rintro e w6 ⟨rfl, hb⟩; replace hB := below_up hB hb; clear hb)
              | (go_at_call 67; (with_reducible refine (CZ.out _).mono ?_); rintro e w6 ⟨rfl, hb⟩; replace hB := below_up hB hb; clear hb))
            go_ret
            exact ⟨rfl, hB⟩
          · obtain rfl : ans = 0 := by omega
            clear hans
            go_wp2_with (first
              | (go_at_call 66; (with_reducible refine (D1.out _).mono ?_); rintro e w3 ⟨rfl, hb⟩; replace hB := below_up hB hb; clear hb)
              | (go_at_call 66; (with_reducible refine (D2.out _).mono ?_); rintro e w4 ⟨rfl, hb⟩; replace hB := below_up hB hb; clear hb)
              | (go_at_call 67; (with_reducible refine (CW.out _).mono ?_); rintro e w5 ⟨rfl, hb⟩; replace hB := below_up hB hb; clear hb)
              | (go_at_call 68; (with_reducible refine (zo_zero _).mono ?_); rintro e w6 ⟨rfl, hb⟩; replace hB := below_up hB hb; clear hb)
              | (go_at_call 67; (with_reducible refine (CZ.out _).mono ?_); rintro e w6 ⟨rfl, hb⟩; replace hB := below_up hB hb; clear hb))
            go_ret
            exact ⟨rfl, hB⟩
        · rw [cmpQ_rest1 hd hc e2 r0 s0] at hans
          obtain rfl : R = ⟨#[48]⟩ := hR.uniq (lit_0.cast r0.symm)
          have hS0 := hS.differ0 s0
          have CZ := Lib.hid (fun w => rcmp_is lit_0 lit_1 (cmp_lt (by decide)) w)
          clear r0 s0
          clear HC hx hy hu hv hnd hmc hnr hmr hP hQ hR hS hcw n0 n1 m0 m1 e1 e2 hd hc hkx
          rcases hsg with rfl | rfl
          · obtain rfl : ans = -1 := by omega
            clear hans
            go_wp2_with (first
              | (go_at_call 66; (with_reducible refine (D1.out _).mono ?_); rintro e w3 ⟨rfl, hb⟩; replace hB := below_up hB hb; clear hb)
              | (go_at_call 66; (with_reducible refine (D2.out _).mono ?_); rintro e w4 ⟨rfl, hb⟩; replace hB := below_up hB hb; clear hb)
              | (go_at_call 67; (with_reducible refine (CW.out _).mono ?_); rintro e w5 ⟨rfl, hb⟩; replace hB := below_up hB hb; clear hb)
              | (go_at_call 68; (with_reducible refine (zo_zero _).mono ?_); rintro e w6 ⟨rfl, hb⟩; replace hB := below_up hB hb; clear hb)
              | (go_at_call 68; (with_reducible refine (zo_one S hS0 _).mono ?_); rintro e w6 ⟨rfl, hb⟩; replace hB := below_up hB hb; clear hb)
              | (go_at_call 67; (with_reducible refine (CZ.out _).mono ?_); rintro e w6 ⟨rfl, hb⟩; replace hB := below_up hB hb; clear hb))
            go_ret
            exact ⟨rfl, hB⟩
          · obtain rfl : ans = 1 := by omega
            clear hans
            go_wp2_with (first
              | (go_at_call 66; (with_reducible refine (D1.out _).mono ?_); rintro e w3 ⟨rfl, hb⟩; replace hB := below_up hB hb; clear hb)
              | (go_at_call 66; (with_reducible refine (D2.out _).mono ?_); rintro e w4 ⟨rfl, hb⟩; replace hB := below_up hB hb; clear hb)
              | (go_at_call 67; (with_reducible refine (CW.out _).mono ?_); rintro e w5 ⟨rfl, hb⟩; replace hB := below_up hB hb; clear hb)
              | (go_at_call 68; (with_reducible refine (zo_zero _).mono ?_); rintro e w6 ⟨rfl, hb⟩; replace hB := below_up hB hb; clear hb)
              | (go_at_call 68; (with_reducible refine (zo_one S hS0 _).mono ?_); rintro e w6 ⟨rfl, hb⟩; replace hB := below_up hB hb; clear hb)
              | (go_at_call 67; (with_reducible refine (CZ.out _).mono ?_); rintro e w6 ⟨rfl, hb⟩; replace hB := below_up hB hb; clear hb))
            go_ret
            exact ⟨rfl, hB⟩
      · have hR0 := hR.differ0 r0
        by_cases s0 : m % c = 0
        · rw [cmpQ_rest2 hd hc e2 r0 s0] at hans
          obtain rfl : S = ⟨#[48]⟩ := hS.uniq (lit_0.cast s0.symm)
          have CZ := Lib.hid (fun w => rcmp_is lit_1 lit_0 (cmp_gt (by decide)) w)
          clear r0 s0
          clear HC hx hy hu hv hnd hmc hnr hmr hP hQ hR hS hcw n0 n1 m0 m1 e1 e2 hd hc hkx
          rcases hsg with rfl | rfl
          · obtain rfl : ans = 1 := by omega
            clear hans
            go_wp2_with (first
              | (go_at_call 66; (with_reducible refine (D1.out _).mono ?_); rintro e w3 ⟨rfl, hb⟩; replace hB := below_up hB hb; clear hb)
              | (go_at_call 66; (with_reducible refine (D2.out _).mono ?_); rintro e w4 ⟨rfl, hb⟩; replace hB := below_up hB hb; clear hb)
              | (go_at_call 67; (with_reducible refine (CW.out _).mono ?_); rintro e w5 ⟨rfl, hb⟩; replace hB := below_up hB hb; clear hb)
              | (go_at_call 68; (with_reducible refine (zo_zero _).mono ?_); rintro e w6 ⟨rfl, hb⟩; replace hB := below_up hB hb; clear hb)
              | (go_at_call 68; (with_reducible refine (zo_one R hR0 _).mono ?_); rintro e w6 ⟨rfl, hb⟩; replace hB := below_up hB hb; clear hb)
              | (go_at_call 67; (with_reducible refine (CZ.out _).mono ?_); rintro e w6 ⟨rfl, hb⟩; replace hB := below_up hB hb; clear hb))
            go_ret
            exact ⟨rfl, hB⟩
          · obtain rfl : ans = -1 := by omega
            clear hans
            go_wp2_with (first
              | (go_at_call 66; (with_reducible refine (D1.out _).mono ?_); rintro e w3 ⟨rfl, hb⟩; replace hB := below_up hB hb; clear hb)
              | (go_at_call 66; (with_reducible refine (D2.out _).mono ?_); rintro e w4 ⟨rfl, hb⟩; replace hB := below_up hB hb; clear hb)
              | (go_at_call 67; (with_reducible refine (CW.out _).mono ?_); rintro e w5 ⟨rfl, hb⟩; replace hB := below_up hB hb; clear hb)
              | (go_at_call 68; (with_reducible refine (zo_zero _).mono ?_); rintro e w6 ⟨rfl, hb⟩; replace hB := below_up hB hb; clear hb)
              | (go_at_call 68; (with_reducible refine (zo_one R hR0 _).mono ?_); rintro e w6 ⟨rfl, hb⟩; replace hB := below_up hB hb; clear hb)
              | (go_at_call 67; (with_reducible refine (CZ.out _).mono ?_); rintro e w6 ⟨rfl, hb⟩; replace hB := below_up hB hb; clear hb))
            go_ret
            exact ⟨rfl, hB⟩
        · have hS0 := hS.differ0 s0
          have hlow : K0 - 0 = K0 := rfl
          have hkx0 : 0 < gk := by omega
          have HN : Hid (CT ans y R v S (-sgn) (n % d).toNat) := Lib.hid ⟨d, n % d, c, m % c, hy, hR, by omega, hv, hS, by omega, by rw [← hans, cmpQ_turn hd hc e2]; simp [Int.neg_mul, Int.mul_neg], Nat.le_refl _⟩
          have hlt : (n % d).toNat < gk := by omega
          have hsg2 : -sgn = 1 ∨ -sgn = -1 := by omega
          have hs0 : -1 ≤ sgn := by omega
          have hs1 : sgn ≤ 1 := by omega
          generalize (n % d).toNat = L at *
          clear HC hx hy hu hv hnd hmc hnr hmr hP hQ hR hS hans hcw n0 n1 m0 m1 e1 e2 hd hc hkx r0 s0 hsg hlow
          go_wp2_with (first
            | (go_at_call 66; (with_reducible refine (D1.out _).mono ?_); rintro e w3 ⟨rfl, hb⟩; replace hB := below_up hB hb; clear hb)
            | (go_at_call 66; (with_reducible refine (D2.out _).mono ?_); rintro e w4 ⟨rfl, hb⟩; replace hB := below_up hB hb; clear hb)
            | (go_at_call 67; (with_reducible refine (CW.out _).mono ?_); rintro e w5 ⟨rfl, hb⟩; replace hB := below_up hB hb; clear hb))
          go_roundg L
          case measure => omega
          case rel => exact ⟨y, R, v, S, -sgn, rfl, rfl, rfl, rfl, rfl, hsg2, HN, hB⟩
    · obtain rfl : cw = 1 := hcw.symm.trans e1
      have hw := cmpQ_whole hd hc (show n / d ≠ m / c by omega)
      rw [hw, e1] at hans
      clear HC hx hy hu hv hnd hmc hnr hmr hP hQ hR hS hcw n0 n1 m0 m1 e1 e2 hw hd hc hkx
      rcases hsg with rfl | rfl
      · obtain rfl : ans = 1 := by omega
        clear hans
        go_wp2_with (first
          | (go_at_call 66; (with_reducible refine (D1.out _).mono ?_); rintro e w3 ⟨rfl, hb⟩; replace hB := below_up hB hb; clear hb)
          | (go_at_call 66; (with_reducible refine (D2.out _).mono ?_); rintro e w4 ⟨rfl, hb⟩; replace hB := below_up hB hb; clear hb)
          | (go_at_call 67; (with_reducible refine (CW.out _).mono ?_); rintro e w5 ⟨rfl, hb⟩; replace hB := below_up hB hb; clear hb))
        go_ret
        exact ⟨rfl, hB⟩
      · obtain rfl : ans = -1 := by omega
        clear hans
        go_wp2_with (first
          | (go_at_call 66; (with_reducible refine (D1.out _).mono ?_); rintro e w3 ⟨rfl, hb⟩; replace hB := below_up hB hb; clear hb)
          | (go_at_call 66; (with_reducible refine (D2.out _).mono ?_); rintro e w4 ⟨rfl, hb⟩; replace hB := below_up hB hb; clear hb)
          | (go_at_call 67; (with_reducible refine (CW.out _).mono ?_); rintro e w5 ⟨rfl, hb⟩; replace hB := below_up hB hb; clear hb))
        go_ret
        exact ⟨rfl, hB⟩

theorem tcompare_any (x y u v : ByteArray) (hx : x.size ≤ 9223372036854775807) (hy : y.size ≤ 9223372036854775807) (hu : u.size ≤ 9223372036854775807) (hv : v.size ≤ 9223372036854775807) (w : World) :
    Calls Tryz.prog 34 #[.agg #[.string x, .string y], .agg #[.string u, .string v]] w (RetI w (cmpO (ratO x y) (ratO u v))) := by
  have VA := Lib.hid (fun w => tvalid_any x y hx hy w)
  have VB := Lib.hid (fun w => tvalid_any u v hu hv w)
  have hB := below_up (below1 w (.cells #[.string x, .string y] 23)) (below1 _ (.cells #[.string u, .string v] 23))
  have BA := (Blk.new w 23 [.string x, .string y]).alloc (.cells #[.string u, .string v] 23)
  have BB := Blk.new2 w (.cells #[.string x, .string y] 23) 23 [.string u, .string v]
  clear hx hy hu hv
  cases h1 : ratO x y with
  | none =>
    rw [ok_none h1] at VA
    rw [show cmpO none (ratO u v) = 0 from rfl]
    clear h1
    cases hb : okR u v with
    | false =>
      rw [hb] at VB
      clear hb
      go_enter Tryz.func34, Tryz.ntmps34
      go_wp2_with (first
        | (go_at_call 40; (with_reducible refine (VA.out _).mono ?_); rintro e w1 ⟨rfl, hb⟩; replace BA := BA.below hb; replace BB := BB.below hb; replace hB := below_up hB hb; clear hb; have b0 := BB.cell 0 (v := .string u) rfl; have b1 := BB.cell 1 (v := .string v) rfl)
        | (go_at_call 40; (with_reducible refine (VB.out _).mono ?_); rintro e w2 ⟨rfl, hb⟩; replace hB := below_up hB hb; clear hb b0 b1))
      all_goals go_ret
      all_goals exact ⟨rfl, hB⟩
    | true =>
      rw [hb] at VB
      clear hb
      go_enter Tryz.func34, Tryz.ntmps34
      go_wp2_with (first
        | (go_at_call 40; (with_reducible refine (VA.out _).mono ?_); rintro e w1 ⟨rfl, hb⟩; replace BA := BA.below hb; replace BB := BB.below hb; replace hB := below_up hB hb; clear hb; have b0 := BB.cell 0 (v := .string u) rfl; have b1 := BB.cell 1 (v := .string v) rfl)
        | (go_at_call 40; (with_reducible refine (VB.out _).mono ?_); rintro e w2 ⟨rfl, hb⟩; replace hB := below_up hB hb; clear hb b0 b1))
      all_goals go_ret
      all_goals exact ⟨rfl, hB⟩
  | some p =>
    cases h2 : ratO u v with
    | some q => exact tcompare_walk x y u v p q (ratO_some.1 h1) (ratO_some.1 h2) w
    | none =>
      rw [ok_some h1] at VA
      rw [ok_none h2] at VB
      rw [show cmpO (some p) none = 0 from rfl]
      clear h1 h2
      go_enter Tryz.func34, Tryz.ntmps34
      go_wp2_with (first
        | (go_at_call 40; (with_reducible refine (VA.out _).mono ?_); rintro e w1 ⟨rfl, hb⟩; replace BA := BA.below hb; replace BB := BB.below hb; replace hB := below_up hB hb; clear hb; have b0 := BB.cell 0 (v := .string u) rfl; have b1 := BB.cell 1 (v := .string v) rfl)
        | (go_at_call 40; (with_reducible refine (VB.out _).mono ?_); rintro e w2 ⟨rfl, hb⟩; replace hB := below_up hB hb; clear hb b0 b1))
      all_goals go_ret
      all_goals exact ⟨rfl, hB⟩

end Go.Proofs.YtnioinccflmdjaaGreatDoor
