/- Package rational: Compare at any texts; powers of ten as texts; what rounding answers. Conditions: sizes; the tables of strconv. Package rational: round, Down, Up. Conditions: sizes; the tables of strconv. Package rational: round, Down, Up at valid fractions. Conditions: sizes; the tables of strconv. Package rational: Down, Up. Conditions: sizes; the tables of strconv. Plain facts of the operations on fractions. No conditions. -/
import Derived.Test.YtnioinccflmdjaaGreatDoorU1
import Derived.Test.YtnioinccflmdjaaGreatDoorShelf
namespace Go.Proofs.YtnioinccflmdjaaGreatDoor
open Go.RowKit Num
open Go.Shelf

set_option maxHeartbeats 2000000 in
set_option maxRecDepth 100000 in
theorem qcompare_bad (a1 a2 b1 b2 : ByteArray) (w : World) (hL : Laid w) (h : okR a1 a2 = false ∨ okR b1 b2 = false) :
    Calls Tryz.prog 23 #[.agg #[.string a1, .string a2], .agg #[.string b1, .string b2]] w (RetI w 0) := by
  have V1 := Lib.hid (fun w hL => qvalid_any a1 a2 w hL)
  have V2 := Lib.hid (fun w hL => qvalid_any b1 b2 w hL)
  have HL := Lib.hid hL
  clear hL
  cases ha : okR a1 a2 with
  | false =>
    rw [ha] at V1
    clear h ha
    go_enter Tryz.func23, Tryz.ntmps23
    have hB := two_low w a1 a2 b1 b2
    go_wp2
    go_step3
    go_wp2_with (go_at_call 17; refine (V1.out (two0 w a1 a2 b1 b2) (HL.out.below hB)).mono ?_; rintro e w1 ⟨rfl, hb⟩; replace hB := below_up hB hb)
    rw [Exit.noGoto_ret]
    go_ret
    exact ⟨rfl, hB⟩
  | true =>
    have hb : okR b1 b2 = false := h.resolve_left (by rw [ha]; exact fun k => by cases k)
    rw [ha] at V1
    rw [hb] at V2
    clear h ha hb
    go_enter Tryz.func23, Tryz.ntmps23
    have hB := two_low w a1 a2 b1 b2
    have ra := two_a w a1 a2 b1 b2
    have rb := two_b w a1 a2 b1 b2
    go_wp2
    go_step3
    go_wp2_with (first
      | (go_at_call 17; refine (V1.out (two0 w a1 a2 b1 b2) (HL.out.below hB)).mono ?_; rintro e w1 ⟨rfl, hb⟩; replace hB := below_up hB hb; replace ra := ra.below hb; replace rb := rb.below hb; clear hb; have p0 := ra.c0; have p1 := ra.c1; have q0 := rb.c0; have q1 := rb.c1; have f0 := ra.f0; have f1 := ra.f1; have g0 := rb.f0; have g1 := rb.f1)
      | (go_at_call 17; (with_reducible refine (V2.out _ (HL.out.below hB)).mono ?_); rintro e w1 ⟨rfl, hb⟩; replace hB := below_up hB hb; replace ra := ra.below hb; replace rb := rb.below hb; clear hb; have p0 := ra.c0; have p1 := ra.c1; have q0 := rb.c0; have q1 := rb.c1; have f0 := ra.f0; have f1 := ra.f1; have g0 := rb.f0; have g1 := rb.f1))
    rw [Exit.noGoto_ret]
    go_ret
    exact ⟨rfl, hB⟩
theorem qcompare_any (a1 a2 b1 b2 : ByteArray) (w : World) (hL : Laid w) :
    Calls Tryz.prog 23 #[.agg #[.string a1, .string a2], .agg #[.string b1, .string b2]] w (RetI w (cmpO (ratO a1 a2) (ratO b1 b2))) := by
  cases ha : ratO a1 a2 with
  | none => exact qcompare_bad a1 a2 b1 b2 w hL (.inl (ratO_none.1 ha))
  | some p =>
    cases hb : ratO b1 b2 with
    | none => exact qcompare_bad a1 a2 b1 b2 w hL (.inr (ratO_none.1 hb))
    | some q => exact qcompare_walk a1 a2 b1 b2 w hL p q (ratO_some.1 ha) (ratO_some.1 hb)

/-! ### Powers of ten -/
def zr (k : Nat) : ByteArray := ⟨(List.replicate k (48 : UInt8)).toArray⟩
theorem zr_size (k : Nat) : (zr k).size = k := by
  show (List.replicate k (48 : UInt8)).toArray.size = k
  simp
theorem zr_snoc (k : Nat) : zr k ++ ⟨#[48]⟩ = zr (k + 1) := by
  apply ByteArray.ext
  rw [ByteArray.data_append]
  unfold zr
  apply Array.toList_inj.1
  simp [List.replicate_succ']
theorem zr_repeat (k : Nat) : (⟨(Lib.repeatL (⟨#[48]⟩ : ByteArray).data.toList k).toArray⟩ : ByteArray) = zr k := by
  unfold zr
  congr 2
  induction k with
  | zero => rfl
  | succ k ih => rw [List.replicate_succ, ← ih]; rfl
theorem dval_zeros : ∀ k, dval (List.replicate k 48) = 0
  | 0 => rfl
  | k + 1 => by
    rw [List.replicate_succ, dval_cons, dval_zeros k]
    simp
theorem zeros_all (k : Nat) : (List.replicate k (48 : UInt8)).all isD = true := by
  rw [List.all_eq_true]
  intro x hx
  rw [List.eq_of_mem_replicate hx]
  decide
/-- 1 with zeros behind it. -/
def pw (k : Nat) : ByteArray := ⟨#[49]⟩ ++ zr k
theorem is_pw {k : Nat} (h : k < 200) : Is (pw k) ((10 ^ k : Nat) : Int) := by
  have e : pw k = ⟨(49 :: List.replicate k (48 : UInt8)).toArray⟩ := by
    apply ByteArray.ext
    unfold pw
    rw [ByteArray.data_append]
    unfold zr
    simp
  rw [e]
  have hb : body (49 :: List.replicate k (48 : UInt8)) = 49 :: List.replicate k 48 := rfl
  unfold Is rdI
  rw [if_pos]
  · unfold valL
    rw [hb, if_neg (by simp), dval_cons, List.length_replicate, dval_zeros]
    have e : ((49 : UInt8).toNat - 48) = 1 := rfl
    rw [e]
    simp
  · unfold validL
    rw [hb, List.all_cons, zeros_all]
    simp
    refine ⟨by omega, by decide⟩
theorem pw_pos (k : Nat) : (0 : Int) < ((10 ^ k : Nat) : Int) := by
  have := Nat.pow_pos (n := k) (show 0 < 10 by omega)
  omega
/-- A fraction's part in whole multiples of the grid. -/
def gridZ (k : Nat) (p : Rat) : Int := p.num * ((10 ^ k : Nat) : Int)
def roundZ (up : Bool) (k : Nat) (p : Rat) : Int := if up && decide (gridZ k p % p.den ≠ 0) then gridZ k p / p.den + 1 else gridZ k p / p.den
/-- The multiple of a grid below or above a fraction. -/
def roundQ (up : Bool) (n : Int) (p : Rat) : Option Rat := if 0 ≤ n ∧ n ≤ 30 ∧ sm (gridZ n.toNat p) then some (Rat.divInt (roundZ up n.toNat p) ((10 ^ n.toNat : Nat) : Int)) else none
theorem round_small {k : Nat} {p : Rat} (hp : sm (p.den : Int)) (h : sm (gridZ k p)) : sm (gridZ k p / p.den) ∧ sm (gridZ k p % p.den) ∧ (gridZ k p % p.den ≠ 0 → sm (gridZ k p / p.den + 1)) := by
  have hd : (0 : Int) < p.den := by have := p.den_pos; omega
  generalize gridZ k p = z at *
  generalize (p.den : Int) = d at *
  unfold sm at h hp ⊢
  have h1 := Int.natAbs_ediv_le_natAbs z d
  have m0 := Int.emod_nonneg z (show d ≠ 0 by omega)
  have m1 := Int.emod_lt_of_pos z hd
  have e := Int.ediv_mul_add_emod z d
  refine ⟨Nat.lt_of_le_of_lt h1 h, by omega, fun hne => ?_⟩
  have e200 : (4 : Nat) < 10 ^ 200 := by decide
  generalize (10 ^ 200 : Nat) = B at *
  by_cases hq : 0 ≤ z / d
  · have h2 : z / d * 2 ≤ z / d * d := Int.mul_le_mul_of_nonneg_left (by omega) hq
    omega
  · omega

end Go.Proofs.YtnioinccflmdjaaGreatDoor

namespace Go.Proofs.YtnioinccflmdjaaGreatDoor
open Go.RowKit Num
open Go.Shelf

structure Rnd (w W : World) (x y : ByteArray) (b : Bool) : Prop where
  a : RB W w.heap.size x y
  r : RB W (w.heap.size + 1) ⟨#[]⟩ ⟨#[]⟩
  k : WB W (w.heap.size + 1 + 1) b
  low : Below w.heap.size w W
def rnd0 (w : World) (x y : ByteArray) (b : Bool) : World :=
  (((w.alloc (.cells #[.string x, .string y] 23)).alloc (.cells #[.string ⟨#[]⟩, .string ⟨#[]⟩] 23)).alloc (.cells #[.bool b] 78)).alloc (.cells #[.string x, .string y] 23)
theorem rnd_start (w : World) (x y : ByteArray) (b : Bool) : Rnd w (rnd0 w x y b) x y b := by
  unfold rnd0
  refine ⟨?_, ?_, ?_, ?_⟩
  · exact (((RB.new w x y).below (below1 _ _)).below (below1 _ _)).below (below1 _ _)
  · have h := RB.new (w.alloc (.cells #[.string x, .string y] 23)) ⟨#[]⟩ ⟨#[]⟩
    rw [World.size_alloc] at h
    exact (h.below (below1 _ _)).below (below1 _ _)
  · have h := WB.new ((w.alloc (.cells #[.string x, .string y] 23)).alloc (.cells #[.string ⟨#[]⟩, .string ⟨#[]⟩] 23)) b
    rw [World.size_alloc, World.size_alloc] at h
    exact h.below (below1 _ _)
  · exact below_up (below1 _ _) (below_up (below1 _ _) (below_up (below1 _ _) (below1 _ _)))
theorem rnd_row (w : World) (x y : ByteArray) (b : Bool) : RowQ (rnd0 w x y b) (w.heap.size + 1 + 1 + 1) [(x, y)] := by
  have h := RB.new (((w.alloc (.cells #[.string x, .string y] 23)).alloc (.cells #[.string ⟨#[]⟩, .string ⟨#[]⟩] 23)).alloc (.cells #[.bool b] 78)) x y
  rw [World.size_alloc, World.size_alloc, World.size_alloc] at h
  intro i hi
  obtain rfl : i = 0 := by simp at hi; omega
  exact ⟨h.c0, h.c1⟩
theorem Rnd.turn {w W W' : World} {x y : ByteArray} {b c : Bool} (h : Rnd w W x y b) (ht : Turn [w.heap.size + 1 + 1] W W') (hw : WB W' (w.heap.size + 1 + 1) c) : Rnd w W' x y c :=
  ⟨h.a.turn ht (by rw [List.mem_singleton]; omega), h.r.turn ht (by rw [List.mem_singleton]; omega), hw, below_turn h.low ht (by omega)⟩
theorem Rnd.below {w W W' : World} {x y : ByteArray} {b : Bool} (h : Rnd w W x y b) (hb : Below W.heap.size W W') : Rnd w W' x y b :=
  ⟨h.a.below hb, h.r.below hb, h.k.below hb, below_up h.low hb⟩
theorem rnd_check (w : World) (hL : Laid w) (x y : ByteArray) (b : Bool) : Calls Tryz.prog 59 #[.pointer (some ⟨w.heap.size + 1 + 1, 0, none⟩), .slice (some ⟨w.heap.size + 1 + 1 + 1, 0, none⟩) 1 1] (rnd0 w x y b) fun e w' => e = .returned (.tuple #[]) ∧ Turn [w.heap.size + 1 + 1] (rnd0 w x y b) w' ∧ WB w' (w.heap.size + 1 + 1) (stB b [(x, y)] 1) :=
  check_any w [(x, y)] (by simp) (w.heap.size + 1 + 1 + 1) (w.heap.size + 1 + 1) 1 b (rnd0 w x y b) (Nat.le_refl _) (rnd_row w x y b) (rnd_start w x y b).k (by omega) hL (rnd_start w x y b).low (by omega)
theorem repeat_zeros (k : Nat) (h : k ≤ 30) (w : World) : Calls Tryz.prog 96 #[.string ⟨#[48]⟩, .int .i64 k] w fun e w' => e = .returned (.string (zr k)) ∧ Below w.heap.size w w' := by
  have r := Tryz.strings_Repeat ⟨#[48]⟩ k w (by omega) (by show 1 * k ≤ _; omega)
  rw [zr_repeat] at r
  exact r

set_option maxHeartbeats 4000000 in
set_option maxRecDepth 100000 in
theorem round_bad (x y : ByteArray) (n : Int) (up : Bool) (b0 : Bool) (w : World) (hL : Laid w) (hb : (decide (n < 0) || decide (n > 30)) = b0) (h : stB b0 [(x, y)] 1 = true) :
    Calls Tryz.prog 69 #[.agg #[.string x, .string y], .int .i64 n, .bool up] w (RetQ w none) := by
  have CK := Lib.hid (rnd_check w hL x y b0)
  have Hβ := Lib.hid h
  clear h hL
  by_cases h0 : n < 0
  · rw [decide_eq_true h0, Bool.true_or] at hb
    subst hb
    go_enter Tryz.func69, Tryz.ntmps69
    go_wp2_with (first
      | (go_at_call 59; refine CK.out.mono ?_; rintro e w1 ⟨rfl, ht, hw⟩; have R := (rnd_start w x y true).turn ht (Hβ.out ▸ hw); have xa0 := R.a.c0; have xa1 := R.a.c1; have g0 := R.r.f0; have g1 := R.r.f1; have r0 := R.r.c0; have r1 := R.r.c1; have k0 := R.k.1; have k1 := R.k.2))
    have RBF := R.r.set ⟨#[]⟩ ⟨#[]⟩
    have e0 := RBF.c0
    have e1 := RBF.c1
    refine bodyPost_ret (v := .tuple #[.agg #[.string ⟨#[]⟩, .string ⟨#[]⟩], .int .i64 40]) (by simp [results, Tryz.results69, go_sem, e0, e1]) rfl ⟨rfl, below_new2 R.low (by omega)⟩
  · rw [decide_eq_false h0, Bool.false_or] at hb
    by_cases h1 : n > 30
    · rw [decide_eq_true h1] at hb
      subst hb
      go_enter Tryz.func69, Tryz.ntmps69
      go_wp2_with (first
        | (go_at_call 59; refine CK.out.mono ?_; rintro e w1 ⟨rfl, ht, hw⟩; have R := (rnd_start w x y true).turn ht (Hβ.out ▸ hw); have xa0 := R.a.c0; have xa1 := R.a.c1; have g0 := R.r.f0; have g1 := R.r.f1; have r0 := R.r.c0; have r1 := R.r.c1; have k0 := R.k.1; have k1 := R.k.2))
      have RBF := R.r.set ⟨#[]⟩ ⟨#[]⟩
      have e0 := RBF.c0
      have e1 := RBF.c1
      refine bodyPost_ret (v := .tuple #[.agg #[.string ⟨#[]⟩, .string ⟨#[]⟩], .int .i64 40]) (by simp [results, Tryz.results69, go_sem, e0, e1]) rfl ⟨rfl, below_new2 R.low (by omega)⟩
    · rw [decide_eq_false h1] at hb
      subst hb
      go_enter Tryz.func69, Tryz.ntmps69
      go_wp2_with (first
        | (go_at_call 59; refine CK.out.mono ?_; rintro e w1 ⟨rfl, ht, hw⟩; have R := (rnd_start w x y false).turn ht (Hβ.out ▸ hw); have xa0 := R.a.c0; have xa1 := R.a.c1; have g0 := R.r.f0; have g1 := R.r.f1; have r0 := R.r.c0; have r1 := R.r.c1; have k0 := R.k.1; have k1 := R.k.2))
      have RBF := R.r.set ⟨#[]⟩ ⟨#[]⟩
      have e0 := RBF.c0
      have e1 := RBF.c1
      refine bodyPost_ret (v := .tuple #[.agg #[.string ⟨#[]⟩, .string ⟨#[]⟩], .int .i64 40]) (by simp [results, Tryz.results69, go_sem, e0, e1]) rfl ⟨rfl, below_new2 R.low (by omega)⟩

end Go.Proofs.YtnioinccflmdjaaGreatDoor

namespace Go.Proofs.YtnioinccflmdjaaGreatDoor
open Go.RowKit Num
open Go.Shelf

set_option maxHeartbeats 4000000 in
set_option maxRecDepth 100000 in
theorem round_over (x y : ByteArray) (p : Rat) (hp : Fr x y p) (k : Nat) (hk : k ≤ 30) (up : Bool) (w : World) (hL : Laid w) (h : ¬ sm (gridZ k p)) :
    Calls Tryz.prog 69 #[.agg #[.string x, .string y], .int .i64 k, .bool up] w (RetQ w none) := by
  have CK := Lib.hid (rnd_check w hL x y false)
  have Hβ : Hid (stB false [(x, y)] 1 = false) := Lib.hid (by unfold stB; simp [hp.ok])
  have M := Lib.hid (fun q W hw hl => mul_fails (p := q) hp.1 (is_pw (k := k) (by omega)) h W hw hl)
  have RE := Lib.hid (fun w => repeat_zeros k hk w)
  have hzs : (zr k).size ≤ 30 := by rw [zr_size]; exact hk
  unfold pw at M
  generalize zr k = z at *
  have HL := Lib.hid hL
  have hk0 : (0 : Int) ≤ k := by omega
  have hk1 : (k : Int) ≤ 30 := by omega
  have hd0 : decide ((k : Int) < 0) = false := decide_eq_false (by omega)
  have hd1 : decide ((30 : Int) < k) = false := decide_eq_false (by omega)
  clear h hL hp hk
  go_enter Tryz.func69, Tryz.ntmps69
  go_wp2_with (first
    | (go_at_call 59; refine CK.out.mono ?_; rintro e w1 ⟨rfl, ht, hw⟩; have R := (rnd_start w x y false).turn ht (Hβ.out ▸ hw); have xa0 := R.a.c0; have xa1 := R.a.c1; have g0 := R.r.f0; have g1 := R.r.f1; have r0 := R.r.c0; have r1 := R.r.c1; have k0 := R.k.1; have k1 := R.k.2)
    | (go_at_call 96; (with_reducible refine (RE.out _).mono ?_); rintro e w2 ⟨rfl, hb⟩; replace R := R.below hb; have xa0 := R.a.c0; have xa1 := R.a.c1; have g0 := R.r.f0; have g1 := R.r.f1; have r0 := R.r.c0; have r1 := R.r.c1; have k0 := R.k.1; have k1 := R.k.2)
    | (go_at_call 60; (with_reducible refine (M.out _ _ R.k (HL.out.below R.low)).mono ?_); rintro e w2 ⟨rfl, ht, hw⟩; replace R := R.turn ht hw; have xa0 := R.a.c0; have xa1 := R.a.c1; have g0 := R.r.f0; have g1 := R.r.f1; have r0 := R.r.c0; have r1 := R.r.c1; have k0 := R.k.1; have k1 := R.k.2))
  have RBF := R.r.set ⟨#[]⟩ ⟨#[]⟩
  have e0 := RBF.c0
  have e1 := RBF.c1
  refine bodyPost_ret (v := .tuple #[.agg #[.string ⟨#[]⟩, .string ⟨#[]⟩], .int .i64 40]) (by simp [results, Tryz.results69, go_sem, e0, e1]) rfl ⟨rfl, below_new2 R.low (by omega)⟩

set_option maxHeartbeats 4000000 in
set_option maxRecDepth 100000 in
theorem round_good (x y : ByteArray) (p : Rat) (hp : Fr x y p) (k : Nat) (hk : k ≤ 30) (up : Bool) (w : World) (hL : Laid w) (h : sm (gridZ k p)) :
    Calls Tryz.prog 69 #[.agg #[.string x, .string y], .int .i64 k, .bool up] w (RetQ w (some (Rat.divInt (roundZ up k p) ((10 ^ k : Nat) : Int)))) := by
  obtain ⟨hs1, hs2, hs3⟩ := round_small hp.2.small h
  obtain ⟨N, hN⟩ := Is.ex h
  obtain ⟨Q, hQ⟩ := Is.ex hs1
  obtain ⟨R', hR⟩ := Is.ex hs2
  have hT := is_pw (k := k) (by omega)
  have hpow := pw_pos k
  have CK := Lib.hid (rnd_check w hL x y false)
  have Hβ : Hid (stB false [(x, y)] 1 = false) := Lib.hid (by unfold stB; simp [hp.ok])
  have M := Lib.hid (fun q W hw hl => mul_good (p := q) hp.1 hT hN W hw hl)
  have D := Lib.hid (fun W hl => div_is hN hp.2 (by have := p.den_pos; omega) hQ hR rfl rfl W hl)
  have RE := Lib.hid (fun w => repeat_zeros k hk w)
  have hzs : (zr k).size ≤ 30 := by rw [zr_size]; exact hk
  have HL := Lib.hid hL
  have hk0 : (0 : Int) ≤ k := by omega
  have hk1 : (k : Int) ≤ 30 := by omega
  have hd0 : decide ((k : Int) < 0) = false := decide_eq_false (by omega)
  have hd1 : decide ((30 : Int) < k) = false := decide_eq_false (by omega)
  by_cases hup : up = true ∧ gridZ k p % p.den ≠ 0
  · obtain ⟨rfl, hne⟩ := hup
    have hR1 := hR.differ0 hne
    obtain ⟨S, hS⟩ := Is.ex (hs3 hne)
    rw [show roundZ true k p = gridZ k p / p.den + 1 by unfold roundZ; rw [decide_eq_true hne]; rfl]
    have A := Lib.hid (fun q W hw hl => do_ok _ enter_add q _ _ _ W hw (add_is hQ lit_1 hS rfl W hl))
    have RD := Lib.hid (fun (q : Nat) (W : World) hw hb hq => reduced_ok w q _ _ _ _ hS hT W hw hL hb hq)
    rw [show makeQ (gridZ k p / p.den + 1) ((10 ^ k : Nat) : Int) = some (Rat.divInt (gridZ k p / p.den + 1) ((10 ^ k : Nat) : Int)) by unfold makeQ; rw [if_neg (by omega)]] at RD
    generalize some (Rat.divInt (gridZ k p / p.den + 1) ((10 ^ k : Nat) : Int)) = o at *
    unfold pw at M RD
    generalize zr k = z at *
    clear h hL hp hk hs1 hs2 hs3 hN hQ hR hT hpow hne hS
    go_enter Tryz.func69, Tryz.ntmps69
    go_wp2_with (first
      | (go_at_call 59; refine CK.out.mono ?_; rintro e w1 ⟨rfl, ht, hw⟩; have R := (rnd_start w x y false).turn ht (Hβ.out ▸ hw); have xa0 := R.a.c0; have xa1 := R.a.c1; have g0 := R.r.f0; have g1 := R.r.f1; have r0 := R.r.c0; have r1 := R.r.c1; have k0 := R.k.1; have k1 := R.k.2)
      | (go_at_call 96; (with_reducible refine (RE.out _).mono ?_); rintro e w2 ⟨rfl, hb⟩; replace R := R.below hb; have xa0 := R.a.c0; have xa1 := R.a.c1; have g0 := R.r.f0; have g1 := R.r.f1; have r0 := R.r.c0; have r1 := R.r.c1; have k0 := R.k.1; have k1 := R.k.2)
      | (go_at_call 60; (with_reducible refine (M.out _ _ R.k (HL.out.below R.low)).mono ?_); rintro e w2 ⟨rfl, ht, hw⟩; replace R := R.turn ht hw; have xa0 := R.a.c0; have xa1 := R.a.c1; have g0 := R.r.f0; have g1 := R.r.f1; have r0 := R.r.c0; have r1 := R.r.c1; have k0 := R.k.1; have k1 := R.k.2)
      | (go_at_call 58; (with_reducible refine (D.out _ (HL.out.below R.low)).mono ?_); rintro e w2 ⟨rfl, hb⟩; replace R := R.below hb; have xa0 := R.a.c0; have xa1 := R.a.c1; have g0 := R.r.f0; have g1 := R.r.f1; have r0 := R.r.c0; have r1 := R.r.c1; have k0 := R.k.1; have k1 := R.k.2)
      | (go_at_call 84; (refine (A.out _ _ (R.k.set false) (HL.out.below (R.turn (Turn.setCell _ (w.heap.size + 1 + 1) 0 (.bool false) (by simp)) (R.k.set false)).low)).mono ?_); rintro e w2 ⟨rfl, ht, hw⟩; replace R := (R.turn (Turn.setCell _ (w.heap.size + 1 + 1) 0 (.bool false) (by simp)) (R.k.set false)).turn ht hw; have xa0 := R.a.c0; have xa1 := R.a.c1; have g0 := R.r.f0; have g1 := R.r.f1; have r0 := R.r.c0; have r1 := R.r.c1; have k0 := R.k.1; have k1 := R.k.2)
      | (go_at_call 57; (with_reducible refine (RD.out _ _ R.k R.low (by omega)).mono ?_); rintro e w4 ⟨rfl, ht⟩; have rb := R.r.turn ht (by rw [List.mem_singleton]; omega); have hB := below_turn R.low ht (by omega); have r0 := rb.c0; have r1 := rb.c1; have f0 := rb.f0; have f1 := rb.f1))
    have RBF := rb.set (numT o) (denT o)
    have e0 := RBF.c0
    have e1 := RBF.c1
    refine bodyPost_ret (v := .tuple #[.agg #[.string (numT o), .string (denT o)], .int .i64 (errT o)]) (by simp [results, Tryz.results69, go_sem, e0, e1]) rfl ⟨rfl, below_new2 hB (by omega)⟩
  · have hz : roundZ up k p = gridZ k p / p.den := by
      unfold roundZ
      cases up with
      | false => rfl
      | true =>
        have : ¬ gridZ k p % p.den ≠ 0 := fun e => hup ⟨rfl, e⟩
        rw [decide_eq_false this]; rfl
    rw [hz]
    have RD := Lib.hid (fun (q : Nat) (W : World) hw hb hq => reduced_ok w q _ _ _ _ hQ hT W hw hL hb hq)
    rw [show makeQ (gridZ k p / p.den) ((10 ^ k : Nat) : Int) = some (Rat.divInt (gridZ k p / p.den) ((10 ^ k : Nat) : Int)) by unfold makeQ; rw [if_neg (by omega)]] at RD
    generalize some (Rat.divInt (gridZ k p / p.den) ((10 ^ k : Nat) : Int)) = o at *
    cases up with
    | false =>
      unfold pw at M RD
      generalize zr k = z at *
      clear h hL hp hk hs1 hs2 hs3 hN hQ hR hT hpow hup hz
      go_enter Tryz.func69, Tryz.ntmps69
      go_wp2_with (first
        | (go_at_call 59; refine CK.out.mono ?_; rintro e w1 ⟨rfl, ht, hw⟩; have R := (rnd_start w x y false).turn ht (Hβ.out ▸ hw); have xa0 := R.a.c0; have xa1 := R.a.c1; have g0 := R.r.f0; have g1 := R.r.f1; have r0 := R.r.c0; have r1 := R.r.c1; have k0 := R.k.1; have k1 := R.k.2)
        | (go_at_call 96; (with_reducible refine (RE.out _).mono ?_); rintro e w2 ⟨rfl, hb⟩; replace R := R.below hb; have xa0 := R.a.c0; have xa1 := R.a.c1; have g0 := R.r.f0; have g1 := R.r.f1; have r0 := R.r.c0; have r1 := R.r.c1; have k0 := R.k.1; have k1 := R.k.2)
        | (go_at_call 60; (with_reducible refine (M.out _ _ R.k (HL.out.below R.low)).mono ?_); rintro e w2 ⟨rfl, ht, hw⟩; replace R := R.turn ht hw; have xa0 := R.a.c0; have xa1 := R.a.c1; have g0 := R.r.f0; have g1 := R.r.f1; have r0 := R.r.c0; have r1 := R.r.c1; have k0 := R.k.1; have k1 := R.k.2)
        | (go_at_call 58; (with_reducible refine (D.out _ (HL.out.below R.low)).mono ?_); rintro e w2 ⟨rfl, hb⟩; replace R := R.below hb; have xa0 := R.a.c0; have xa1 := R.a.c1; have g0 := R.r.f0; have g1 := R.r.f1; have r0 := R.r.c0; have r1 := R.r.c1; have k0 := R.k.1; have k1 := R.k.2)
        | (go_at_call 57; (refine (RD.out _ _ (R.k.set false) (R.turn (Turn.setCell _ (w.heap.size + 1 + 1) 0 (.bool false) (by simp)) (R.k.set false)).low (by omega)).mono ?_); rintro e w4 ⟨rfl, ht⟩; have rb := (R.turn (Turn.setCell _ (w.heap.size + 1 + 1) 0 (.bool false) (by simp)) (R.k.set false)).r.turn ht (by rw [List.mem_singleton]; omega); have hB := below_turn (R.turn (Turn.setCell _ (w.heap.size + 1 + 1) 0 (.bool false) (by simp)) (R.k.set false)).low ht (by omega); have r0 := rb.c0; have r1 := rb.c1; have f0 := rb.f0; have f1 := rb.f1))
      have RBF := rb.set (numT o) (denT o)
      have e0 := RBF.c0
      have e1 := RBF.c1
      refine bodyPost_ret (v := .tuple #[.agg #[.string (numT o), .string (denT o)], .int .i64 (errT o)]) (by simp [results, Tryz.results69, go_sem, e0, e1]) rfl ⟨rfl, below_new2 hB (by omega)⟩
    | true =>
      have e0 : gridZ k p % p.den = 0 := by
        by_cases e : gridZ k p % p.den = 0
        · exact e
        · exact absurd ⟨rfl, e⟩ hup
      obtain rfl : R' = ⟨#[48]⟩ := hR.uniq (lit_0.cast e0.symm)
      unfold pw at M RD
      generalize zr k = z at *
      clear h hL hp hk hs1 hs2 hs3 hN hQ hR hT hpow hup hz e0
      go_enter Tryz.func69, Tryz.ntmps69
      go_wp2_with (first
        | (go_at_call 59; refine CK.out.mono ?_; rintro e w1 ⟨rfl, ht, hw⟩; have R := (rnd_start w x y false).turn ht (Hβ.out ▸ hw); have xa0 := R.a.c0; have xa1 := R.a.c1; have g0 := R.r.f0; have g1 := R.r.f1; have r0 := R.r.c0; have r1 := R.r.c1; have k0 := R.k.1; have k1 := R.k.2)
        | (go_at_call 96; (with_reducible refine (RE.out _).mono ?_); rintro e w2 ⟨rfl, hb⟩; replace R := R.below hb; have xa0 := R.a.c0; have xa1 := R.a.c1; have g0 := R.r.f0; have g1 := R.r.f1; have r0 := R.r.c0; have r1 := R.r.c1; have k0 := R.k.1; have k1 := R.k.2)
        | (go_at_call 60; (with_reducible refine (M.out _ _ R.k (HL.out.below R.low)).mono ?_); rintro e w2 ⟨rfl, ht, hw⟩; replace R := R.turn ht hw; have xa0 := R.a.c0; have xa1 := R.a.c1; have g0 := R.r.f0; have g1 := R.r.f1; have r0 := R.r.c0; have r1 := R.r.c1; have k0 := R.k.1; have k1 := R.k.2)
        | (go_at_call 58; (with_reducible refine (D.out _ (HL.out.below R.low)).mono ?_); rintro e w2 ⟨rfl, hb⟩; replace R := R.below hb; have xa0 := R.a.c0; have xa1 := R.a.c1; have g0 := R.r.f0; have g1 := R.r.f1; have r0 := R.r.c0; have r1 := R.r.c1; have k0 := R.k.1; have k1 := R.k.2)
        | (go_at_call 57; (refine (RD.out _ _ (R.k.set false) (R.turn (Turn.setCell _ (w.heap.size + 1 + 1) 0 (.bool false) (by simp)) (R.k.set false)).low (by omega)).mono ?_); rintro e w4 ⟨rfl, ht⟩; have rb := (R.turn (Turn.setCell _ (w.heap.size + 1 + 1) 0 (.bool false) (by simp)) (R.k.set false)).r.turn ht (by rw [List.mem_singleton]; omega); have hB := below_turn (R.turn (Turn.setCell _ (w.heap.size + 1 + 1) 0 (.bool false) (by simp)) (R.k.set false)).low ht (by omega); have r0 := rb.c0; have r1 := rb.c1; have f0 := rb.f0; have f1 := rb.f1))
      have RBF := rb.set (numT o) (denT o)
      have e0 := RBF.c0
      have e1 := RBF.c1
      refine bodyPost_ret (v := .tuple #[.agg #[.string (numT o), .string (denT o)], .int .i64 (errT o)]) (by simp [results, Tryz.results69, go_sem, e0, e1]) rfl ⟨rfl, below_new2 hB (by omega)⟩

end Go.Proofs.YtnioinccflmdjaaGreatDoor

namespace Go.Proofs.YtnioinccflmdjaaGreatDoor
open Go.RowKit Num
open Go.Shelf

theorem round_any (x y : ByteArray) (n : Int) (up : Bool) (w : World) (hL : Laid w) :
    Calls Tryz.prog 69 #[.agg #[.string x, .string y], .int .i64 n, .bool up] w (RetQ w ((ratO x y).bind (roundQ up n))) := by
  cases h : ratO x y with
  | none =>
    refine round_bad x y n up _ w hL rfl ?_
    have := ratO_none.1 h
    unfold stB
    simp [this]
  | some p =>
    have hp := ratO_some.1 h
    show Calls _ _ _ _ (RetQ w (roundQ up n p))
    unfold roundQ
    by_cases hn : 0 ≤ n ∧ n ≤ 30
    · obtain ⟨k, rfl⟩ : ∃ k : Nat, n = k := ⟨n.toNat, by omega⟩
      by_cases hs : sm (gridZ k p)
      · rw [if_pos ⟨hn.1, hn.2, hs⟩]
        exact round_good x y p hp k (by omega) up w hL hs
      · rw [if_neg (fun h => hs h.2.2)]
        exact round_over x y p hp k (by omega) up w hL hs
    · rw [if_neg (fun h => hn ⟨h.1, h.2.1⟩)]
      refine round_bad x y n up _ w hL rfl ?_
      unfold stB
      have : (decide (n < 0) || decide (n > 30)) = true := by
        simp only [Bool.or_eq_true, decide_eq_true_eq]; omega
      rw [this]; rfl

set_option maxHeartbeats 2000000 in
set_option maxRecDepth 100000 in
theorem qdown_any (x y : ByteArray) (n : Int) (w : World) (hL : Laid w) : Calls Tryz.prog 35 #[.agg #[.string x, .string y], .int .i64 n] w (RetQ w ((ratO x y).bind (roundQ false n))) := by
  have HS := Lib.hid (fun w hL => round_any x y n false w hL)
  have HL := Lib.hid hL
  generalize (ratO x y).bind (roundQ false n) = o at *
  clear hL
  go_enter Tryz.func35, Tryz.ntmps35
  go_wp2_with (go_at_call 69; refine (HS.out (two0 w x y ⟨#[]⟩ ⟨#[]⟩) (HL.out.below (two_low w x y ⟨#[]⟩ ⟨#[]⟩))).mono ?_; rintro e w1 ⟨rfl, hb⟩; have rb := (two_b w x y ⟨#[]⟩ ⟨#[]⟩).below hb; have hB := below_up (two_low w x y ⟨#[]⟩ ⟨#[]⟩) hb; have r0 := rb.c0; have r1 := rb.c1; have f0 := rb.f0; have f1 := rb.f1)
  have RBF := rb.set (numT o) (denT o)
  have e0 := RBF.c0
  have e1 := RBF.c1
  refine bodyPost_ret (v := .tuple #[.agg #[.string (numT o), .string (denT o)], .int .i64 (errT o)]) (by simp [results, Tryz.results35, go_sem, e0, e1]) rfl ⟨rfl, below_new2 hB (by omega)⟩

set_option maxHeartbeats 2000000 in
set_option maxRecDepth 100000 in
theorem qup_any (x y : ByteArray) (n : Int) (w : World) (hL : Laid w) : Calls Tryz.prog 37 #[.agg #[.string x, .string y], .int .i64 n] w (RetQ w ((ratO x y).bind (roundQ true n))) := by
  have HS := Lib.hid (fun w hL => round_any x y n true w hL)
  have HL := Lib.hid hL
  generalize (ratO x y).bind (roundQ true n) = o at *
  clear hL
  go_enter Tryz.func37, Tryz.ntmps37
  go_wp2_with (go_at_call 69; refine (HS.out (two0 w x y ⟨#[]⟩ ⟨#[]⟩) (HL.out.below (two_low w x y ⟨#[]⟩ ⟨#[]⟩))).mono ?_; rintro e w1 ⟨rfl, hb⟩; have rb := (two_b w x y ⟨#[]⟩ ⟨#[]⟩).below hb; have hB := below_up (two_low w x y ⟨#[]⟩ ⟨#[]⟩) hb; have r0 := rb.c0; have r1 := rb.c1; have f0 := rb.f0; have f1 := rb.f1)
  have RBF := rb.set (numT o) (denT o)
  have e0 := RBF.c0
  have e1 := RBF.c1
  refine bodyPost_ret (v := .tuple #[.agg #[.string (numT o), .string (denT o)], .int .i64 (errT o)]) (by simp [results, Tryz.results37, go_sem, e0, e1]) rfl ⟨rfl, below_new2 hB (by omega)⟩

end Go.Proofs.YtnioinccflmdjaaGreatDoor

namespace Go.Proofs.YtnioinccflmdjaaGreatDoor
open Go.RowKit Num
open Go.Shelf

theorem addQ_some {p q r : Rat} (h : addQ p q = some r) : r = p + q := by
  unfold addQ at h
  split at h
  · exact (Option.some.inj h).symm
  · cases h
theorem subQ_some {p q r : Rat} (h : subQ p q = some r) : r = p - q := by
  unfold subQ at h
  split at h
  · exact (Option.some.inj h).symm
  · cases h
theorem mulQ_some {p q r : Rat} (h : mulQ p q = some r) : r = p * q := by
  unfold mulQ at h
  split at h
  · exact (Option.some.inj h).symm
  · cases h
theorem divQ_some {p q r : Rat} (h : divQ p q = some r) : r = p / q ∧ q ≠ 0 := by
  unfold divQ at h
  split at h
  · rename_i hc
    exact ⟨(Option.some.inj h).symm, hc.2.2⟩
  · cases h
theorem addQ_comm (p q : Rat) : addQ p q = addQ q p := by
  unfold addQ
  have e1 : (q.den : Int) * p.den = (p.den : Int) * q.den := Int.mul_comm _ _
  have e2 : q.num * p.den + p.num * q.den = p.num * q.den + q.num * p.den := Int.add_comm _ _
  rw [e1, e2, Rat.add_comm q p]
  by_cases h1 : sm (p.num * q.den) <;> by_cases h2 : sm (q.num * p.den) <;> simp [h1, h2]
theorem mulQ_comm (p q : Rat) : mulQ p q = mulQ q p := by
  unfold mulQ
  rw [Int.mul_comm q.num p.num, Int.mul_comm (q.den : Int) p.den, Rat.mul_comm q p]
/-- Results of the operations are fractions that can be written. -/
theorem fit_of_divInt {n d : Int} (hn : sm n) (hd : sm d) (h0 : d ≠ 0) : fitQ (Rat.divInt n d) := divInt_small hn hd h0
theorem den_ne (p : Rat) : (p.den : Int) ≠ 0 := by have := p.den_pos; omega
theorem addQ_fit {p q r : Rat} (h : addQ p q = some r) : fitQ r := by
  have e := addQ_some h
  unfold addQ at h
  split at h
  · rename_i hc
    rw [e, add_divInt]
    exact fit_of_divInt hc.2.2.1 hc.2.2.2 (Int.mul_ne_zero (den_ne p) (den_ne q))
  · cases h
theorem subQ_fit {p q r : Rat} (h : subQ p q = some r) : fitQ r := by
  have e := subQ_some h
  unfold subQ at h
  split at h
  · rename_i hc
    rw [e, sub_divInt]
    exact fit_of_divInt hc.2.2.1 hc.2.2.2 (Int.mul_ne_zero (den_ne p) (den_ne q))
  · cases h
theorem mulQ_fit {p q r : Rat} (h : mulQ p q = some r) : fitQ r := by
  have e := mulQ_some h
  unfold mulQ at h
  split at h
  · rename_i hc
    rw [e, mul_divInt]
    exact fit_of_divInt hc.1 hc.2 (Int.mul_ne_zero (den_ne p) (den_ne q))
  · cases h
theorem divQ_fit {p q r : Rat} (h : divQ p q = some r) : fitQ r := by
  have e := (divQ_some h).1
  unfold divQ at h
  split at h
  · rename_i hc
    rw [e, quo_divInt]
    exact fit_of_divInt hc.1 hc.2.1 (Int.mul_ne_zero (den_ne p) (fun k => hc.2.2 (Rat.num_eq_zero.1 k)))
  · cases h
theorem op2Q_none (f : Rat → Rat → Option Rat) (b : Option Rat) : op2Q f none b = none := rfl
theorem op2Q_some (f : Rat → Rat → Option Rat) (p q : Rat) : op2Q f (some p) (some q) = f p q := rfl
theorem rat_of {o : Option Rat} (h : ∀ q, o = some q → fitQ q) : ratO (numT o) (denT o) = o := by
  cases o with
  | none => rfl
  | some q => exact ratO_some.2 (fr_fit (h q rfl))

end Go.Proofs.YtnioinccflmdjaaGreatDoor
