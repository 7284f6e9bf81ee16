/- Package rational: Compare. Conditions: sizes; the tables of strconv. -/
import Derived.Test.YtffndcjmabjhiaaGreatDoorK8
import Derived.WalkMore
import Derived.ScopeJumps
import Derived.Deep.RegionHeld3
namespace Go.Proofs.YtffndcjmabjhiaaGreatDoor
open Go.RowKit Num
open Go.Shelf

def cmpO (a b : Option Rat) : Int := match a, b with
  | some p, some q => cmpR p q
  | _, _ => 0
def two0 (w : World) (a1 a2 b1 b2 : ByteArray) : World := (w.alloc (.cells #[.string a1, .string a2] 29)).alloc (.cells #[.string b1, .string b2] 29)
theorem two_low (w : World) (a1 a2 b1 b2 : ByteArray) : Below w.heap.size w (two0 w a1 a2 b1 b2) := below_up (below1 _ _) (below1 _ _)
theorem two_a (w : World) (a1 a2 b1 b2 : ByteArray) : RB (two0 w a1 a2 b1 b2) w.heap.size a1 a2 := (RB.new w a1 a2).below (below1 _ _)
theorem two_b (w : World) (a1 a2 b1 b2 : ByteArray) : RB (two0 w a1 a2 b1 b2) (w.heap.size + 1) b1 b2 := by
  have h := RB.new (w.alloc (.cells #[.string a1, .string a2] 29)) b1 b2
  rw [World.size_alloc] at h
  exact h
/-- Where the comparison stands: what is left to be compared, and its sign. -/
def CS (w W : World) (ans : Int) (x y u v : ByteArray) (sgn : Int) : Prop := ∃ n d m c : Int, RB W w.heap.size x y ∧ RB W (w.heap.size + 1) u v ∧ Below w.heap.size w W ∧ Is x n ∧ Is y d ∧ 0 < d ∧ Is u m ∧ Is v c ∧ 0 < c ∧ sgn * cmpQ n d m c = ans ∧ (sgn = 1 ∨ sgn = -1)
theorem parts_of {x y u v : ByteArray} {n d m c : Int} (hx : Is x n) (hy : Is y d) (hd : 0 < d) (hu : Is u m) (hv : Is v c) (hc : 0 < c) : ∃ P R Q S, Is P (n / d) ∧ Is R (n % d) ∧ Is Q (m / c) ∧ Is S (m % c) ∧
    Hid (∀ W, Laid W → Calls Tryz.prog 64 #[.string x, .string y] W (RetD W P R)) ∧ Hid (∀ W, Laid W → Calls Tryz.prog 64 #[.string u, .string v] W (RetD W Q S)) ∧ Hid (∀ W, Calls Tryz.prog 65 #[.string P, .string Q] W (RetI W (Lib.compareInt (n / d) (m / c)))) := by
  have sx := hx.small; have sy := hy.small; have su := hu.small; have sv := hv.small
  unfold sm at sx sy su sv
  have l1 := Int.emod_nonneg n (show d ≠ 0 by omega)
  have l2 := Int.emod_lt_of_pos n hd
  have l3 := Int.emod_nonneg m (show c ≠ 0 by omega)
  have l4 := Int.emod_lt_of_pos m hc
  obtain ⟨P, hP⟩ := Is.ex (z := n / d) (Nat.lt_of_le_of_lt (Int.natAbs_ediv_le_natAbs _ _) sx)
  obtain ⟨R, hR⟩ := Is.ex (z := n % d) (by unfold sm; omega)
  obtain ⟨Q, hQ⟩ := Is.ex (z := m / c) (Nat.lt_of_le_of_lt (Int.natAbs_ediv_le_natAbs _ _) su)
  obtain ⟨S, hS⟩ := Is.ex (z := m % c) (by unfold sm; omega)
  exact ⟨P, R, Q, S, hP, hR, hQ, hS, Lib.hid (fun W hl => div_is hx hy (by omega) hP hR rfl rfl W hl), Lib.hid (fun W hl => div_is hu hv (by omega) hQ hS rfl rfl W hl), Lib.hid (fun W => cmp_is hP hQ rfl W)⟩





theorem wp_scope_jumps1 {P : Program} {a : Act} {w : World} {Q : Exit → Act → World → Prop} {c rest : Code} (l : Nat) (J : Act → World → Prop) (μ : Act → World → Nat) (hf : findLabel c l = some (.seq .skip rest))
    (pass : ∀ a w, J a w → rest.wp P (Exit.jump l (fun a' w' => J a' w' ∧ μ a' w' < μ a w) Q) a w)
    (first : (∀ a w, J a w → rest.wp P (Exit.jump l J Q) a w) → c.wp P (Exit.jump l J Q) a w) : (Code.scope c).wp P Q a w :=
  wp_scope_jumps l J μ hf (first fun a w h => wp_mono (pass a w h) (fun e a' w' k => by cases e <;> first | exact k | exact ⟨k.1, k.2.1⟩)) (fun a w h => wp_seq (wp_skip (pass a w h)))
/-- What is left of the denominator. -/
def left2 (B : Nat) (W : World) : Nat := match W.cell? ⟨B, 1, none⟩ with
  | some (.string y) => ((rdI y).getD 0).toNat
  | _ => 0
theorem RB.drew {W : World} {B : Nat} {x y : ByteArray} (h : RB W B x y) : RB W.drew B x y := ⟨h.c0, h.c1, h.f0, h.f1⟩
theorem left2_is {B : Nat} {W : World} {x y : ByteArray} {d : Int} (h : RB W B x y) (hy : Is y d) : left2 B W = d.toNat := by
  unfold left2
  rw [h.c1]
  show ((rdI y).getD 0).toNat = _
  rw [show rdI y = some d from hy]; rfl

set_option maxHeartbeats 4000000 in
set_option maxRecDepth 100000 in
theorem qcompare_walk (a1 a2 b1 b2 : ByteArray) (w : World) (hL : Laid w) (p q : Rat) (ha : Fr a1 a2 p) (hb : Fr b1 b2 q) :
    Calls Tryz.prog 17 #[.agg #[.string a1, .string a2], .agg #[.string b1, .string b2]] w (RetI w (cmpR p q)) := by
  have V1 := Lib.hid (fun w hL => qvalid_any a1 a2 w hL)
  have V2 := Lib.hid (fun w hL => qvalid_any b1 b2 w hL)
  rw [ha.ok] at V1
  rw [hb.ok] at V2
  have HL := Lib.hid hL
  have hp := p.den_pos
  have hq := q.den_pos
  have H0 : Hid (∀ W, RB W w.heap.size a1 a2 → RB W (w.heap.size + 1) b1 b2 → Below w.heap.size w W → CS w W (cmpR p q) a1 a2 b1 b2 1) := Lib.hid (fun W h1 h2 h3 => ⟨p.num, p.den, q.num, q.den, h1, h2, h3, ha.1, ha.2, by omega, hb.1, hb.2, by omega, by unfold cmpR; omega, Or.inl rfl⟩)
  clear hL ha hb hp hq
  generalize cmpR p q = ans at *
  go_enter Tryz.func17, Tryz.ntmps17
  have hB := two_low w a1 a2 b1 b2
  have ra := two_a w a1 a2 b1 b2
  have rb := two_b w a1 a2 b1 b2
  go_wp2
  refine wp_scope_jumps1 0 (fun a' W => ∃ (x y u v : ByteArray) (sgn : Int) (u6 u7 u8 u9 u10 u11 u12 u13 u14 u15 u16 u17 u18 u19 u20 u21 u22 u23 u24 u25 u26 u27 u28 u29 u30 u31 u32 u33 u34 u35 u36 u37 u38 u39 u40 u41 u42 u43 u44 u45 u46 u47 u48 u49 u50 u51 u52 u53 u54 u55 u56 u57 u58 u59 u60 u61 u62 u63 u64 u65 u66 u67 u68 u69 u70 u71 u72 u73 : Value), a' = { tmps := #[.agg #[.string a1, .string a2], .agg #[.string b1, .string b2], .pointer (some ⟨w.heap.size, 0, none⟩), .pointer (some ⟨w.heap.size + 1, 0, none⟩), .int .i64 0, .int .i64 sgn, u6, u7, u8, u9, u10, u11, u12, u13, u14, u15, u16, u17, u18, u19, u20, u21, u22, u23, u24, u25, u26, u27, u28, u29, u30, u31, u32, u33, u34, u35, u36, u37, u38, u39, u40, u41, u42, u43, u44, u45, u46, u47, u48, u49, u50, u51, u52, u53, u54, u55, u56, u57, u58, u59, u60, u61, u62, u63, u64, u65, u66, u67, u68, u69, u70, u71, u72, u73], defers := [] } ∧ CS w W ans x y u v sgn) (fun _ W => left2 w.heap.size W) rfl ?_ ?_
  · clear hB ra rb H0 V1 V2
    rintro a' W ⟨x, y, u, v, sgn, u6, u7, u8, u9, u10, u11, u12, u13, u14, u15, u16, u17, u18, u19, u20, u21, u22, u23, u24, u25, u26, u27, u28, u29, u30, u31, u32, u33, u34, u35, u36, u37, u38, u39, u40, u41, u42, u43, u44, u45, u46, u47, u48, u49, u50, u51, u52, u53, u54, u55, u56, u57, u58, u59, u60, u61, u62, u63, u64, u65, u66, u67, u68, u69, u70, u71, u72, u73, rfl, n, d, m, c, ra, rb, hB, hx, hy, hd, hu, hv, hc, hans, hsg⟩
    obtain ⟨P, R, Q, S, hP, hR, hQ, hS, D1, D2, C⟩ := parts_of hx hy hd hu hv hc
    have p0 := ra.c0; have p1 := ra.c1; have q0 := rb.c0; have q1 := rb.c1
    have Hmu := Lib.hid (left2_is ra hy)
    have hsl : -1 ≤ sgn := by omega
    have hsu : sgn ≤ 1 := by omega
    by_cases hw : n / d = m / c
    · rw [cmp_eq hw] at C
      have l1 := Int.emod_nonneg n (show d ≠ 0 by omega)
      have l2 := Int.emod_lt_of_pos n hd
      have l3 := Int.emod_nonneg m (show c ≠ 0 by omega)
      by_cases hr : n % d = 0
      · have hR0 : R = ⟨#[48]⟩ := hR.uniq (lit_0.cast hr.symm)
        by_cases hs : m % c = 0
        · have hS0 : S = ⟨#[48]⟩ := hS.uniq (lit_0.cast hs.symm)
          rw [cmpQ_rest0 hd hc hw hr hs] at hans
          have HA := Lib.hid hans
          subst hR0; subst hS0
          clear hP hR hQ hS hx hy hu hv hd hc hr hs hw hans l1 l2 l3 hsg
          go_wp2_with (first
        | (go_at_call 64; (with_reducible refine (D1.out _ (HL.out.below hB)).mono ?_); rintro e w1 ⟨rfl, hb⟩; replace hB := below_up hB hb; replace ra := ra.below hb; replace rb := rb.below hb; clear hb; have p0 := ra.c0; have p1 := ra.c1; have q0 := rb.c0; have q1 := rb.c1; have f0 := ra.f0; have f1 := ra.f1; have g0 := rb.f0; have g1 := rb.f1)
        | (go_at_call 64; (with_reducible refine (D2.out _ (HL.out.below hB)).mono ?_); rintro e w1 ⟨rfl, hb⟩; replace hB := below_up hB hb; replace ra := ra.below hb; replace rb := rb.below hb; clear hb; have p0 := ra.c0; have p1 := ra.c1; have q0 := rb.c0; have q1 := rb.c1; have f0 := ra.f0; have f1 := ra.f1; have g0 := rb.f0; have g1 := rb.f1)
        | (go_at_call 65; (with_reducible refine (C.out _).mono ?_); rintro e w1 ⟨rfl, hb⟩; replace hB := below_up hB hb; replace ra := ra.below hb; replace rb := rb.below hb; clear hb; have p0 := ra.c0; have p1 := ra.c1; have q0 := rb.c0; have q1 := rb.c1; have f0 := ra.f0; have f1 := ra.f1; have g0 := rb.f0; have g1 := rb.f1))
          simp only [Exit.jump]
          go_ret
          exact ⟨by rw [← HA.out, Int.mul_zero]; rfl, hB⟩
        · have hS1 := hS.differ0 hs
          rw [cmpQ_rest1 hd hc hw hr hs] at hans
          have HA := Lib.hid hans
          subst hR0
          clear hP hR hQ hS hx hy hu hv hd hc hr hs hw hans l1 l2 l3 hsg
          go_wp2_with (first
        | (go_at_call 64; (with_reducible refine (D1.out _ (HL.out.below hB)).mono ?_); rintro e w1 ⟨rfl, hb⟩; replace hB := below_up hB hb; replace ra := ra.below hb; replace rb := rb.below hb; clear hb; have p0 := ra.c0; have p1 := ra.c1; have q0 := rb.c0; have q1 := rb.c1; have f0 := ra.f0; have f1 := ra.f1; have g0 := rb.f0; have g1 := rb.f1)
        | (go_at_call 64; (with_reducible refine (D2.out _ (HL.out.below hB)).mono ?_); rintro e w1 ⟨rfl, hb⟩; replace hB := below_up hB hb; replace ra := ra.below hb; replace rb := rb.below hb; clear hb; have p0 := ra.c0; have p1 := ra.c1; have q0 := rb.c0; have q1 := rb.c1; have f0 := ra.f0; have f1 := ra.f1; have g0 := rb.f0; have g1 := rb.f1)
        | (go_at_call 65; (with_reducible refine (C.out _).mono ?_); rintro e w1 ⟨rfl, hb⟩; replace hB := below_up hB hb; replace ra := ra.below hb; replace rb := rb.below hb; clear hb; have p0 := ra.c0; have p1 := ra.c1; have q0 := rb.c0; have q1 := rb.c1; have f0 := ra.f0; have f1 := ra.f1; have g0 := rb.f0; have g1 := rb.f1))
          simp only [Exit.jump]
          go_ret
          exact ⟨by rw [← HA.out, Int.mul_neg, Int.mul_one]; rfl, hB⟩
      · have hR1 := hR.differ0 hr
        by_cases hs : m % c = 0
        · have hS0 : S = ⟨#[48]⟩ := hS.uniq (lit_0.cast hs.symm)
          rw [cmpQ_rest2 hd hc hw hr hs] at hans
          have HA := Lib.hid hans
          subst hS0
          clear hP hR hQ hS hx hy hu hv hd hc hr hs hw hans l1 l2 l3 hsg
          go_wp2_with (first
        | (go_at_call 64; (with_reducible refine (D1.out _ (HL.out.below hB)).mono ?_); rintro e w1 ⟨rfl, hb⟩; replace hB := below_up hB hb; replace ra := ra.below hb; replace rb := rb.below hb; clear hb; have p0 := ra.c0; have p1 := ra.c1; have q0 := rb.c0; have q1 := rb.c1; have f0 := ra.f0; have f1 := ra.f1; have g0 := rb.f0; have g1 := rb.f1)
        | (go_at_call 64; (with_reducible refine (D2.out _ (HL.out.below hB)).mono ?_); rintro e w1 ⟨rfl, hb⟩; replace hB := below_up hB hb; replace ra := ra.below hb; replace rb := rb.below hb; clear hb; have p0 := ra.c0; have p1 := ra.c1; have q0 := rb.c0; have q1 := rb.c1; have f0 := ra.f0; have f1 := ra.f1; have g0 := rb.f0; have g1 := rb.f1)
        | (go_at_call 65; (with_reducible refine (C.out _).mono ?_); rintro e w1 ⟨rfl, hb⟩; replace hB := below_up hB hb; replace ra := ra.below hb; replace rb := rb.below hb; clear hb; have p0 := ra.c0; have p1 := ra.c1; have q0 := rb.c0; have q1 := rb.c1; have f0 := ra.f0; have f1 := ra.f1; have g0 := rb.f0; have g1 := rb.f1))
          simp only [Exit.jump]
          go_ret
          exact ⟨by rw [← HA.out, Int.mul_one]; rfl, hB⟩
        · have hS1 := hS.differ0 hs
          have HT : Hid (∀ W1, RB W1 w.heap.size y R → RB W1 (w.heap.size + 1) v S → Below w.heap.size w W1 → CS w W1 ans y R v S (-sgn) ∧ left2 w.heap.size W1 < left2 w.heap.size W) := Lib.hid (fun W1 h1 h2 h3 => by
            refine ⟨⟨d, n % d, c, m % c, h1, h2, h3, hy, hR, by omega, hv, hS, by omega, ?_, by omega⟩, ?_⟩
            · rw [← hans, cmpQ_turn hd hc hw, Int.neg_mul, Int.mul_neg]
            · rw [Hmu.out, left2_is h1 hR]; omega)
          clear hP hR hQ hS hx hy hu hv hd hc hr hs hw hans l1 l2 l3 hsg Hmu
          go_wp2_with (first
        | (go_at_call 64; (with_reducible refine (D1.out _ (HL.out.below hB)).mono ?_); rintro e w1 ⟨rfl, hb⟩; replace hB := below_up hB hb; replace ra := ra.below hb; replace rb := rb.below hb; clear hb; have p0 := ra.c0; have p1 := ra.c1; have q0 := rb.c0; have q1 := rb.c1; have f0 := ra.f0; have f1 := ra.f1; have g0 := rb.f0; have g1 := rb.f1)
        | (go_at_call 64; (with_reducible refine (D2.out _ (HL.out.below hB)).mono ?_); rintro e w1 ⟨rfl, hb⟩; replace hB := below_up hB hb; replace ra := ra.below hb; replace rb := rb.below hb; clear hb; have p0 := ra.c0; have p1 := ra.c1; have q0 := rb.c0; have q1 := rb.c1; have f0 := ra.f0; have f1 := ra.f1; have g0 := rb.f0; have g1 := rb.f1)
        | (go_at_call 65; (with_reducible refine (C.out _).mono ?_); rintro e w1 ⟨rfl, hb⟩; replace hB := below_up hB hb; replace ra := ra.below hb; replace rb := rb.below hb; clear hb; have p0 := ra.c0; have p1 := ra.c1; have q0 := rb.c0; have q1 := rb.c1; have f0 := ra.f0; have f1 := ra.f1; have g0 := rb.f0; have g1 := rb.f1))
          go_region
          all_goals go_wp2
          all_goals go_step3
          have ta : Turn [w.heap.size] w1 ((w1.setCell ⟨w.heap.size, 0, none⟩ (.string y)).setCell ⟨w.heap.size, 1, none⟩ (.string R)) := (Turn.setCell _ _ _ _ (by simp)).trans (Turn.setCell _ _ _ _ (by simp))
          have rb2 := (rb.turn ta (by simp)).set v S
          have ra2 := (ra.set y R).turn (X := [w.heap.size + 1]) ((Turn.setCell _ (w.heap.size + 1) 0 (.string v) (by simp)).trans (Turn.setCell _ (w.heap.size + 1) 1 (.string S) (by simp))) (by simp)
          have hB2 := below_new2 (u := .string v) (v := .string S) (below_new2 (u := .string y) (v := .string R) hB (Nat.le_refl _)) (B := w.heap.size + 1) (by omega)
          have HF := HT.out _ ra2.drew rb2.drew hB2.drew
          exact ⟨rfl, ⟨y, R, v, S, -sgn, _, _, _, _, _, _, _, _, _, _, _, _, _, _, _, _, _, _, _, _, _, _, _, _, _, _, _, _, _, _, _, _, _, _, _, _, _, _, _, _, _, _, _, _, _, _, _, _, _, _, _, _, _, _, _, _, _, _, _, _, _, _, _, _, _, _, _, _, rfl, HF.1⟩, HF.2⟩
    · obtain ⟨k, hk, hk0, hkl, hku⟩ : ∃ k, Lib.compareInt (n / d) (m / c) = k ∧ k ≠ 0 ∧ -1 ≤ k ∧ k ≤ 1 := by
        refine ⟨_, rfl, ?_, ?_, ?_⟩ <;> (unfold Lib.compareInt; repeat' split) <;> omega
      rw [cmpQ_whole hd hc hw, hk] at hans
      rw [hk] at C
      have hpr : wrap64 (sgn * k) = sgn * k := by
        have : -1 ≤ sgn * k ∧ sgn * k ≤ 1 := by
          rcases hsg with rfl | rfl <;> omega
        simp only [wrap64]; omega
      have HA := Lib.hid hans
      clear hP hR hQ hS hx hy hu hv hd hc hw hans hsg hk
      go_wp2_with (first
        | (go_at_call 64; (with_reducible refine (D1.out _ (HL.out.below hB)).mono ?_); rintro e w1 ⟨rfl, hb⟩; replace hB := below_up hB hb; replace ra := ra.below hb; replace rb := rb.below hb; clear hb; have p0 := ra.c0; have p1 := ra.c1; have q0 := rb.c0; have q1 := rb.c1; have f0 := ra.f0; have f1 := ra.f1; have g0 := rb.f0; have g1 := rb.f1)
        | (go_at_call 64; (with_reducible refine (D2.out _ (HL.out.below hB)).mono ?_); rintro e w1 ⟨rfl, hb⟩; replace hB := below_up hB hb; replace ra := ra.below hb; replace rb := rb.below hb; clear hb; have p0 := ra.c0; have p1 := ra.c1; have q0 := rb.c0; have q1 := rb.c1; have f0 := ra.f0; have f1 := ra.f1; have g0 := rb.f0; have g1 := rb.f1)
        | (go_at_call 65; (with_reducible refine (C.out _).mono ?_); rintro e w1 ⟨rfl, hb⟩; replace hB := below_up hB hb; replace ra := ra.below hb; replace rb := rb.below hb; clear hb; have p0 := ra.c0; have p1 := ra.c1; have q0 := rb.c0; have q1 := rb.c1; have f0 := ra.f0; have f1 := ra.f1; have g0 := rb.f0; have g1 := rb.f1))
      simp only [Exit.jump]
      go_ret
      exact ⟨by rw [← HA.out]; rfl, hB⟩
  · intro hrest
    have HR := Lib.hid hrest
    clear hrest
    go_wp2_with (first
      | (go_at_call 63; refine (V1.out (two0 w a1 a2 b1 b2) (HL.out.below hB)).mono ?_; rintro e w1 ⟨rfl, hb⟩; replace hB := below_up hB hb; replace ra := ra.below hb; replace rb := rb.below hb; clear hb; have p0 := ra.c0; have p1 := ra.c1; have q0 := rb.c0; have q1 := rb.c1; have f0 := ra.f0; have f1 := ra.f1; have g0 := rb.f0; have g1 := rb.f1)
      | (go_at_call 63; (with_reducible refine (V2.out _ (HL.out.below hB)).mono ?_); rintro e w1 ⟨rfl, hb⟩; replace hB := below_up hB hb; replace ra := ra.below hb; replace rb := rb.below hb; clear hb; have p0 := ra.c0; have p1 := ra.c1; have q0 := rb.c0; have q1 := rb.c1; have f0 := ra.f0; have f1 := ra.f1; have g0 := rb.f0; have g1 := rb.f1))
    go_step3
    rename_i K hK
    exact hK _ _ (HR.out _ _ ⟨a1, a2, b1, b2, 1, _, _, _, _, _, _, _, _, _, _, _, _, _, _, _, _, _, _, _, _, _, _, _, _, _, _, _, _, _, _, _, _, _, _, _, _, _, _, _, _, _, _, _, _, _, _, _, _, _, _, _, _, _, _, _, _, _, _, _, _, _, _, _, _, _, _, _, _, rfl, H0.out _ ra rb hB⟩)

end Go.Proofs.YtffndcjmabjhiaaGreatDoor
