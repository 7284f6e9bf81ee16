/- Plain facts of fractions that are not large. No conditions. workpieceref04: Of, Small, and plain facts for Long. Conditions: sizes; the tables of strconv. -/
import Derived.Test.YtffndcjmabjhiaaGreatDoorK14
import Derived.Test.YtffndcjmabjhiaaGreatDoorK13
import Derived.Laws.BytesString
import Derived.Laws.IdiomStrings
namespace Go.Proofs.YtffndcjmabjhiaaGreatDoor
open Go.RowKit Num
open Go.Shelf

theorem fadd_fits {p q : Rat} (h : sm (p.num * q.den) ∧ sm (q.num * p.den) ∧ sm (p.num * q.den + q.num * p.den) ∧ sm ((p.den : Int) * q.den)) : op2Q addQ (some p) (some q) = some (p + q) := if_pos h
theorem fsub_fits {p q : Rat} (h : sm (p.num * q.den) ∧ sm (q.num * p.den) ∧ sm (p.num * q.den - q.num * p.den) ∧ sm ((p.den : Int) * q.den)) : op2Q subQ (some p) (some q) = some (p - q) := if_pos h
theorem fmul_fits {p q : Rat} (h : sm (p.num * q.num) ∧ sm ((p.den : Int) * q.den)) : op2Q mulQ (some p) (some q) = some (p * q) := if_pos h
theorem fdiv_fits {p q : Rat} (h : sm (p.num * q.den) ∧ sm ((p.den : Int) * q.num) ∧ q ≠ 0) : op2Q divQ (some p) (some q) = some (p / q) := if_pos h
theorem num_eq {a b : Int} (hb : b ≠ 0) : (Rat.divInt a b).num * b = a * (Rat.divInt a b).den :=
  (Rat.divInt_eq_divInt_iff (n₁ := (Rat.divInt a b).num) (n₂ := a) (d₁ := ((Rat.divInt a b).den : Int)) (d₂ := b) (den_ne _) hb).1 (Rat.num_divInt_den _)
theorem num_le {a b : Int} (hb : b ≠ 0) : (Rat.divInt a b).num.natAbs ≤ a.natAbs ∧ (Rat.divInt a b).den ≤ b.natAbs := by
  have key : ∀ {n d : Int}, 0 < d → (Rat.divInt n d).num.natAbs ≤ n.natAbs ∧ (Rat.divInt n d).den ≤ d.natAbs := fun {n d} h => by
    obtain ⟨h1, h2⟩ := red_pos (n := n) h
    have h3 := Int.natAbs_ediv_le_natAbs n ((Int.gcd n d : Nat) : Int)
    have h4 := Int.natAbs_ediv_le_natAbs d ((Int.gcd n d : Nat) : Int)
    rw [h1] at h3
    rw [h2] at h4
    exact ⟨h3, by omega⟩
  by_cases h : 0 < b
  · exact key h
  · rw [← divInt_flip a hb]
    have := key (n := 0 - a) (d := 0 - b) (by omega)
    omega
/-- Numerator and denominator have at most k digits. -/
def lim (k : Nat) (p : Rat) : Prop := p.num.natAbs < 10 ^ k ∧ p.den < 10 ^ k
theorem lim.mono {k l : Nat} {p : Rat} (h : lim k p) (hkl : k ≤ l) : lim l p :=
  ⟨Nat.lt_of_lt_of_le h.1 (Nat.pow_le_pow_right (by omega) hkl), Nat.lt_of_lt_of_le h.2 (Nat.pow_le_pow_right (by omega) hkl)⟩
theorem lim.fit {k : Nat} {p : Rat} (h : lim k p) (hk : k ≤ 200) : fitQ p := by
  have h2 := h.mono hk
  exact ⟨h2.1, by unfold sm; rw [Int.natAbs_natCast]; exact h2.2⟩
theorem lim_divInt {a b : Int} {k : Nat} (ha : a.natAbs < 10 ^ k) (hb : b.natAbs < 10 ^ k) (h0 : b ≠ 0) : lim k (Rat.divInt a b) :=
  ⟨Nat.lt_of_le_of_lt (num_le h0).1 ha, Nat.lt_of_le_of_lt (num_le h0).2 hb⟩
theorem prod_small {a b : Int} {k l : Nat} (ha : a.natAbs < 10 ^ k) (hb : b.natAbs < 10 ^ l) (h : k + l ≤ 199) : (a * b).natAbs < 10 ^ 199 := by
  have h1 := nabs_mul ha hb
  rw [← Nat.pow_add] at h1
  exact Nat.lt_of_lt_of_le h1 (Nat.pow_le_pow_right (by omega) h)
theorem ten_200 : (10 : Nat) ^ 200 = 10 * 10 ^ 199 := rfl
theorem sm_199 {a : Int} (h : a.natAbs < 10 ^ 199) : sm a := by
  unfold sm; rw [ten_200]; generalize (10 : Nat) ^ 199 = b at *; omega
theorem sm_sum {a b : Int} (ha : a.natAbs < 10 ^ 199) (hb : b.natAbs < 10 ^ 199) : sm (a + b) ∧ sm (a - b) := by
  unfold sm; rw [ten_200]; generalize (10 : Nat) ^ 199 = c at *; omega
theorem den_small {k : Nat} {p : Rat} (h : lim k p) : (p.den : Int).natAbs < 10 ^ k := by rw [Int.natAbs_natCast]; exact h.2
theorem add_lim {p q : Rat} {k l : Nat} (hp : lim k p) (hq : lim l q) (h : k + l ≤ 199) : op2Q addQ (some p) (some q) = some (p + q) :=
  fadd_fits ⟨sm_199 (prod_small hp.1 (den_small hq) h), sm_199 (prod_small hq.1 (den_small hp) (by omega)), (sm_sum (prod_small hp.1 (den_small hq) h) (prod_small hq.1 (den_small hp) (by omega))).1, sm_199 (prod_small (den_small hp) (den_small hq) h)⟩
theorem sub_lim {p q : Rat} {k l : Nat} (hp : lim k p) (hq : lim l q) (h : k + l ≤ 199) : op2Q subQ (some p) (some q) = some (p - q) :=
  fsub_fits ⟨sm_199 (prod_small hp.1 (den_small hq) h), sm_199 (prod_small hq.1 (den_small hp) (by omega)), (sm_sum (prod_small hp.1 (den_small hq) h) (prod_small hq.1 (den_small hp) (by omega))).2, sm_199 (prod_small (den_small hp) (den_small hq) h)⟩
theorem mul_lim {p q : Rat} {k l : Nat} (hp : lim k p) (hq : lim l q) (h : k + l ≤ 199) : op2Q mulQ (some p) (some q) = some (p * q) :=
  fmul_fits ⟨sm_199 (prod_small hp.1 hq.1 h), sm_199 (prod_small (den_small hp) (den_small hq) h)⟩
theorem div_lim {p q : Rat} {k l : Nat} (hp : lim k p) (hq : lim l q) (h : k + l ≤ 199) (h0 : q ≠ 0) : op2Q divQ (some p) (some q) = some (p / q) :=
  fdiv_fits ⟨sm_199 (prod_small hp.1 (den_small hq) h), sm_199 (prod_small (den_small hp) hq.1 h), h0⟩
theorem div_none (p : Rat) : op2Q divQ (some p) (some 0) = none := if_neg (fun h => h.2.2 rfl)
theorem cmpO_some (p q : Rat) : cmpO (some p) (some q) = if p < q then -1 else if q < p then 1 else 0 := by
  show cmpR p q = _
  by_cases h : p < q
  · rw [if_pos h]; exact cmpR_lt.2 h
  · rw [if_neg h]
    by_cases h2 : q < p
    · rw [if_pos h2]; exact cmpR_gt.2 h2
    · rw [if_neg h2]; exact cmpR_eq.2 (by grind)
theorem divInt_lt {n d m c : Int} (hd : 0 < d) (hc : 0 < c) : Rat.divInt n d < Rat.divInt m c ↔ n * c < m * d := by
  rw [Rat.lt_iff]
  have e1 := num_eq (a := n) (b := d) (by omega)
  have e2 := num_eq (a := m) (b := c) (by omega)
  have p1 := (Rat.divInt n d).den_pos
  have p2 := (Rat.divInt m c).den_pos
  generalize (Rat.divInt n d).num = x at *
  generalize (Rat.divInt m c).num = y at *
  generalize hu : ((Rat.divInt n d).den : Int) = u at *
  generalize hv : ((Rat.divInt m c).den : Int) = v at *
  have hu0 : 0 < u := by omega
  have hv0 : 0 < v := by omega
  have k1 : x * v * (d * c) = n * c * (u * v) := by
    calc x * v * (d * c) = (x * d) * (v * c) := by ac_rfl
      _ = (n * u) * (v * c) := by rw [e1]
      _ = n * c * (u * v) := by ac_rfl
  have k2 : y * u * (d * c) = m * d * (u * v) := by
    calc y * u * (d * c) = (y * c) * (u * d) := by ac_rfl
      _ = (m * v) * (u * d) := by rw [e2]
      _ = m * d * (u * v) := by ac_rfl
  constructor
  · intro h
    have := Int.mul_lt_mul_of_pos_right h (Int.mul_pos hd hc)
    rw [k1, k2] at this
    exact Int.lt_of_mul_lt_mul_right this (Int.le_of_lt (Int.mul_pos hu0 hv0))
  · intro h
    have := Int.mul_lt_mul_of_pos_right h (Int.mul_pos hu0 hv0)
    rw [← k1, ← k2] at this
    exact Int.lt_of_mul_lt_mul_right this (Int.le_of_lt (Int.mul_pos hd hc))
theorem cmp_divInt {n d m c : Int} (hd : 0 < d) (hc : 0 < c) : cmpO (some (Rat.divInt n d)) (some (Rat.divInt m c)) = if n * c < m * d then -1 else if m * d < n * c then 1 else 0 := by
  rw [cmpO_some]
  by_cases h : n * c < m * d
  · rw [if_pos h, if_pos ((divInt_lt hd hc).2 h)]
  · rw [if_neg h, if_neg (fun k => h ((divInt_lt hd hc).1 k))]
    by_cases h2 : m * d < n * c
    · rw [if_pos h2, if_pos ((divInt_lt hc hd).2 h2)]
    · rw [if_neg h2, if_neg (fun k => h2 ((divInt_lt hc hd).1 k))]
theorem divInt_zero {m c : Int} (hc : 0 < c) : Rat.divInt m c = 0 ↔ m = 0 := by
  constructor
  · intro h
    have := num_eq (a := m) (b := c) (by omega)
    rw [h] at this
    have e1 : ((0 : Rat).den : Int) = 1 := rfl
    rw [show (0 : Rat).num = 0 from rfl, e1] at this
    omega
  · intro h; subst h; exact Rat.zero_divInt c
theorem quo_divInt2 {n d m c : Int} : Rat.divInt n d / Rat.divInt m c = Rat.divInt (n * c) (d * m) := by
  rw [Rat.div_def, Rat.inv_divInt, Rat.divInt_mul_divInt]

end Go.Proofs.YtffndcjmabjhiaaGreatDoor

namespace Go.Proofs.YtffndcjmabjhiaaGreatDoor
open Go.RowKit Num
open Go.Shelf

set_option maxHeartbeats 2000000 in
set_option maxRecDepth 100000 in
theorem tof_any (n d : Int) (hn0 : -9223372036854775808 ≤ n) (hn1 : n ≤ 9223372036854775807) (hd0 : -9223372036854775808 ≤ d) (hd1 : d ≤ 9223372036854775807) (w : World) :
    Calls Tryz.prog 47 #[.int .i64 n, .int .i64 d] w (RetQ w (makeQ n d)) := by
  obtain ⟨s, hs⟩ := Is.ex (z := n) (sm_of (m := 9223372036854775809) (by omega) (by decide))
  obtain ⟨t, ht⟩ := Is.ex (z := d) (sm_of (m := 9223372036854775809) (by omega) (by decide))
  have F1 : Hid (∀ w, Calls Tryz.prog 147 #[.int .i64 n] w (RetZ w s)) := Lib.hid (fun w => by rw [hs.eq]; exact rfrom_any n hn0 hn1 w)
  have F2 : Hid (∀ w, Calls Tryz.prog 147 #[.int .i64 d] w (RetZ w t)) := Lib.hid (fun w => by rw [ht.eq]; exact rfrom_any d hd0 hd1 w)
  have MK := Lib.hid (fun w => tmake_any s t (by have := hs.size; omega) (by have := ht.size; omega) w)
  rw [makeT_is hs ht] at MK
  generalize makeQ n d = o at *
  clear hs ht
  go_enter Tryz.func47, Tryz.ntmps47
  have hB := below1 w (.cells #[.string ⟨#[]⟩, .string ⟨#[]⟩] 29)
  have rb := RB.new w ⟨#[]⟩ ⟨#[]⟩
  go_wp2_with (first
    | (go_at_call 147; (with_reducible refine (F1.out _).mono ?_); rintro e w1 ⟨rfl, hb⟩; replace hB := below_up hB hb; replace rb := rb.below hb; clear hb)
    | (go_at_call 147; (with_reducible refine (F2.out _).mono ?_); rintro e w1 ⟨rfl, hb⟩; replace hB := below_up hB hb; replace rb := rb.below hb; clear hb)
    | (go_at_call 146; (with_reducible refine (MK.out _).mono ?_); rintro e w1 ⟨rfl, hb⟩; replace hB := below_up hB hb; replace rb := rb.below hb; clear hb; have r0 := rb.c0; have r1 := rb.c1; have f0 := rb.f0; have f1 := rb.f1))
  have RBF := rb.set (numT o) (denT o)
  have e0 := RBF.c0
  have e1 := RBF.c1
  refine bodyPost_ret (v := .tuple #[.agg #[.string (numT o), .string (denT o)], .int .i64 (errT o)]) (by simp [results, Tryz.results47, go_sem, e0, e1]) rfl ⟨rfl, below_new2 hB (Nat.le_refl _)⟩

theorem tof_some (n d : Int) (hn0 : -9223372036854775808 ≤ n) (hn1 : n ≤ 9223372036854775807) (hd0 : -9223372036854775808 ≤ d) (hd1 : d ≤ 9223372036854775807) (h0 : d ≠ 0) (w : World) :
    Calls Tryz.prog 47 #[.int .i64 n, .int .i64 d] w (RetQ w (some (Rat.divInt n d))) := by
  have h := tof_any n d hn0 hn1 hd0 hd1 w
  rwa [show makeQ n d = some (Rat.divInt n d) from if_neg h0] at h
/-- A fraction of few digits. -/
def RetLim (k : Nat) (w : World) (e : Ending) (w' : World) : Prop := ∃ q : Rat, lim k q ∧ e = .returned (.agg #[.string (numT (some q)), .string (denT (some q))]) ∧ Below w.heap.size w w'
set_option maxHeartbeats 2000000 in
set_option maxRecDepth 100000 in
theorem small_any (x y : Int) (hx0 : -9223372036854775808 ≤ x) (hx1 : x ≤ 9223372036854775807) (hy0 : -9223372036854775808 ≤ y) (hy1 : y ≤ 9223372036854775807) (w : World) :
    Calls Tryz.prog 40 #[.agg #[.int .i64 x, .int .i64 y]] w (RetLim 3 w) := by
  have hmixed : Tryz.prog.follows .mixedOrders = true := by kernel_rfl
  have Z := Blk.new2 w (.cells #[.int .i64 x, .int .i64 y] 81) 29 [.string ⟨#[]⟩, .string ⟨#[]⟩]
  have X := (Blk.new w 81 [.int .i64 x, .int .i64 y]).alloc (.cells #[.string ⟨#[]⟩, .string ⟨#[]⟩] 29)
  have hB := below_up (below1 w (.cells #[.int .i64 x, .int .i64 y] 81)) (below1 _ (.cells #[.string ⟨#[]⟩, .string ⟨#[]⟩] 29))
  go_enter Tryz.func40, Tryz.ntmps40
  go_wp2
  go_cut [3] (fun s3 wx => ∃ g q, BoxOut ((w.alloc (.cells #[.int .i64 x, .int .i64 y] 81)).alloc (.cells #[.string ⟨#[]⟩, .string ⟨#[]⟩] 29)) g 29 [.string (numT (some q)), .string (denT (some q))] s3 wx ∧ lim 3 q)
  case first =>
    have q0 := X.cell 0 (v := .int .i64 x) rfl
    have q1 := X.cell 1 (v := .int .i64 y) rfl
    have eX : w.heap.size + 1 + 1 ≠ w.heap.size := by omega
    have hZ : Below ((w.alloc (.cells #[.int .i64 x, .int .i64 y] 81)).alloc (.cells #[.string ⟨#[]⟩, .string ⟨#[]⟩] 29)).heap.size ((w.alloc (.cells #[.int .i64 x, .int .i64 y] 81)).alloc (.cells #[.string ⟨#[]⟩, .string ⟨#[]⟩] 29)) ((w.alloc (.cells #[.int .i64 x, .int .i64 y] 81)).alloc (.cells #[.string ⟨#[]⟩, .string ⟨#[]⟩] 29)).drew := (Below.refl _ _).drew
    have X' := X.below hZ
    have x0 := X'.cell 0 (v := .int .i64 x) rfl
    have x1 := X'.cell 1 (v := .int .i64 y) rfl
    go_region_held3 (fun w' => w'.cell? ⟨w.heap.size, 0, none⟩ = some (.int .i64 x) ∧ w'.cell? ⟨w.heap.size, 1, none⟩ = some (.int .i64 y)) (go_keep) (first
      | (go_at_call 137; (with_reducible refine (tpick_any x 1999 hx0 hx1 (by decide) (by decide) _).mono ?_); rintro e v' ⟨k, hk0, hk1, rfl, rfl⟩; have hwk : IntKind.i64.wrap (k - 999) = k - 999 := IntWalk.i64_in _ (by omega))
      | (go_at_call 137; (with_reducible refine (tpick_any y 60 hy0 hy1 (by decide) (by decide) _).mono ?_); rintro e v' ⟨l, hl0, hl1, rfl, rfl⟩; have hwl : IntKind.i64.wrap (1 + l) = 1 + l := IntWalk.i64_in _ (by omega))
      | (go_at_call 47; (refine (tof_some (k - 999) (1 + l) (by omega) (by omega) (by omega) (by omega) (by omega) _).mono ?_); rintro e wN ⟨rfl, hb⟩; (try first | (have BN := Blk.below ((Blk.new3 w (.cells #[.int .i64 x, .int .i64 y] 81) (.cells #[.string ⟨#[]⟩, .string ⟨#[]⟩] 29) 29 [.string ⟨#[]⟩, .string ⟨#[]⟩]).below (Below.refl _ _).drew) hb; have hg : ((w.alloc (.cells #[.int .i64 x, .int .i64 y] 81)).alloc (.cells #[.string ⟨#[]⟩, .string ⟨#[]⟩] 29)).heap.size ≤ w.heap.size + 1 + 1 := (by simp)) | (have BN := Blk.below (Blk.new _ 29 [.string ⟨#[]⟩, .string ⟨#[]⟩]) hb; have hg := hZ.size)); have hZ := (by first | exact below_up hZ hb | exact below_up (below_up hZ (below1 _ _)) hb : Below ((w.alloc (.cells #[.int .i64 x, .int .i64 y] 81)).alloc (.cells #[.string ⟨#[]⟩, .string ⟨#[]⟩] 29)).heap.size ((w.alloc (.cells #[.int .i64 x, .int .i64 y] 81)).alloc (.cells #[.string ⟨#[]⟩, .string ⟨#[]⟩] 29)) wN); have X' := (by first | exact X'.below hb | exact (X'.alloc _).below hb : Blk wN w.heap.size 81 [.int .i64 x, .int .i64 y]); have x0 := X'.cell 0 (v := .int .i64 x) rfl; have x1 := X'.cell 1 (v := .int .i64 y) rfl; (try (have n0 := BN.cell 0 (v := .string ⟨#[]⟩) rfl; have m0 := BN.frozen 0; have n1 := BN.cell 1 (v := .string ⟨#[]⟩) rfl; have m1 := BN.frozen 1))))
    all_goals go_wp2_with fail
    all_goals go_meet
    all_goals have hlim : lim 3 (Rat.divInt (k - 999) (1 + l)) := lim_divInt (by omega) (by omega) (by omega)
    all_goals first
      | exact ⟨_, _, ⟨rfl, ((BN.set 0 _).set 1 _), ((hZ.setCell hg _).setCell hg _)⟩, hlim⟩
      | exact ⟨_, _, ⟨rfl, Blk.new _ _ _, below_up hZ (below1 _ _)⟩, hlim⟩
  case rest =>
    obtain ⟨g, q, ⟨rfl, Bg, hp⟩, hq⟩ := hcut
    have Z' := Z.below hp
    have c0 := Bg.cell 0 (v := .string (numT (some q))) rfl
    have c1 := Bg.cell 1 (v := .string (denT (some q))) rfl
    have z0 := Z'.cell 0 (v := .string ⟨#[]⟩) rfl
    have z1 := Z'.cell 1 (v := .string ⟨#[]⟩) rfl
    have f0 := Z'.frozen 0
    have f1 := Z'.frozen 1
    have hB2 := below_up hB hp
    go_wp2
    have ZF := (Z'.set 0 (.string (numT (some q)))).set 1 (.string (denT (some q)))
    have e0 := ZF.cell 0 (v := .string (numT (some q))) rfl
    have e1 := ZF.cell 1 (v := .string (denT (some q))) rfl
    refine bodyPost_ret (v := .agg #[.string (numT (some q)), .string (denT (some q))]) (by simp [results, Tryz.results40, go_sem, e0, e1]) rfl ⟨q, hq, rfl, ?_⟩
    exact (hB2.setCell (by simp) _).setCell (by simp) _

end Go.Proofs.YtffndcjmabjhiaaGreatDoor
