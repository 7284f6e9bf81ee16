/- Package rational: Compare at any texts; powers of ten as texts; what rounding answers. Conditions: sizes; the tables of strconv. Plain facts of the operations on fractions. No conditions. Blocks of memory that are known whole; the small helpers of package workpiecelaw04. Conditions: sizes. Package rational at fractions that may be missing; is, pick and minus of package workpiecelaw04. Conditions: sizes; the tables of strconv. -/
import Derived.Test.YtffndcjmabjhiaaGreatDoorU1
import Derived.Test.YtffndcjmabjhiaaGreatDoorShelf
import Derived.Test.YtffndcjmabjhiaaGreatDoorK13
import Derived.Deep.DeepCutAuto
namespace Go.Proofs.YtffndcjmabjhiaaGreatDoor
open Go.RowKit Num
open Go.Shelf

set_option maxHeartbeats 2000000 in
set_option maxRecDepth 100000 in
theorem qcompare_bad (a1 a2 b1 b2 : ByteArray) (w : World) (hL : Laid w) (h : okR a1 a2 = false ∨ okR b1 b2 = false) :
    Calls Tryz.prog 17 #[.agg #[.string a1, .string a2], .agg #[.string b1, .string b2]] w (RetI w 0) := by
  have V1 := Lib.hid (fun w hL => qvalid_any a1 a2 w hL)
  have V2 := Lib.hid (fun w hL => qvalid_any b1 b2 w hL)
  have HL := Lib.hid hL
  clear hL
  cases ha : okR a1 a2 with
  | false =>
    rw [ha] at V1
    clear h ha
    go_enter Tryz.func17, Tryz.ntmps17
    have hB := two_low w a1 a2 b1 b2
    go_wp2
    go_step3
    go_wp2_with (go_at_call 63; refine (V1.out (two0 w a1 a2 b1 b2) (HL.out.below hB)).mono ?_; rintro e w1 ⟨rfl, hb⟩; replace hB := below_up hB hb)
    rw [Exit.noGoto_ret]
    go_ret
    exact ⟨rfl, hB⟩
  | true =>
    have hb : okR b1 b2 = false := h.resolve_left (by rw [ha]; exact fun k => by cases k)
    rw [ha] at V1
    rw [hb] at V2
    clear h ha hb
    go_enter Tryz.func17, Tryz.ntmps17
    have hB := two_low w a1 a2 b1 b2
    have ra := two_a w a1 a2 b1 b2
    have rb := two_b w a1 a2 b1 b2
    go_wp2
    go_step3
    go_wp2_with (first
      | (go_at_call 63; refine (V1.out (two0 w a1 a2 b1 b2) (HL.out.below hB)).mono ?_; rintro e w1 ⟨rfl, hb⟩; replace hB := below_up hB hb; replace ra := ra.below hb; replace rb := rb.below hb; clear hb; have p0 := ra.c0; have p1 := ra.c1; have q0 := rb.c0; have q1 := rb.c1; have f0 := ra.f0; have f1 := ra.f1; have g0 := rb.f0; have g1 := rb.f1)
      | (go_at_call 63; (with_reducible refine (V2.out _ (HL.out.below hB)).mono ?_); rintro e w1 ⟨rfl, hb⟩; replace hB := below_up hB hb; replace ra := ra.below hb; replace rb := rb.below hb; clear hb; have p0 := ra.c0; have p1 := ra.c1; have q0 := rb.c0; have q1 := rb.c1; have f0 := ra.f0; have f1 := ra.f1; have g0 := rb.f0; have g1 := rb.f1))
    rw [Exit.noGoto_ret]
    go_ret
    exact ⟨rfl, hB⟩
theorem qcompare_any (a1 a2 b1 b2 : ByteArray) (w : World) (hL : Laid w) :
    Calls Tryz.prog 17 #[.agg #[.string a1, .string a2], .agg #[.string b1, .string b2]] w (RetI w (cmpO (ratO a1 a2) (ratO b1 b2))) := by
  cases ha : ratO a1 a2 with
  | none => exact qcompare_bad a1 a2 b1 b2 w hL (.inl (ratO_none.1 ha))
  | some p =>
    cases hb : ratO b1 b2 with
    | none => exact qcompare_bad a1 a2 b1 b2 w hL (.inr (ratO_none.1 hb))
    | some q => exact qcompare_walk a1 a2 b1 b2 w hL p q (ratO_some.1 ha) (ratO_some.1 hb)

/-! ### Powers of ten -/
def zr (k : Nat) : ByteArray := ⟨(List.replicate k (48 : UInt8)).toArray⟩
theorem zr_size (k : Nat) : (zr k).size = k := by
  show (List.replicate k (48 : UInt8)).toArray.size = k
  simp
theorem zr_snoc (k : Nat) : zr k ++ ⟨#[48]⟩ = zr (k + 1) := by
  apply ByteArray.ext
  rw [ByteArray.data_append]
  unfold zr
  apply Array.toList_inj.1
  simp [List.replicate_succ']
theorem zr_repeat (k : Nat) : (⟨(Lib.repeatL (⟨#[48]⟩ : ByteArray).data.toList k).toArray⟩ : ByteArray) = zr k := by
  unfold zr
  congr 2
  induction k with
  | zero => rfl
  | succ k ih => rw [List.replicate_succ, ← ih]; rfl
theorem dval_zeros : ∀ k, dval (List.replicate k 48) = 0
  | 0 => rfl
  | k + 1 => by
    rw [List.replicate_succ, dval_cons, dval_zeros k]
    simp
theorem zeros_all (k : Nat) : (List.replicate k (48 : UInt8)).all isD = true := by
  rw [List.all_eq_true]
  intro x hx
  rw [List.eq_of_mem_replicate hx]
  decide
/-- 1 with zeros behind it. -/
def pw (k : Nat) : ByteArray := ⟨#[49]⟩ ++ zr k
theorem is_pw {k : Nat} (h : k < 200) : Is (pw k) ((10 ^ k : Nat) : Int) := by
  have e : pw k = ⟨(49 :: List.replicate k (48 : UInt8)).toArray⟩ := by
    apply ByteArray.ext
    unfold pw
    rw [ByteArray.data_append]
    unfold zr
    simp
  rw [e]
  have hb : body (49 :: List.replicate k (48 : UInt8)) = 49 :: List.replicate k 48 := rfl
  unfold Is rdI
  rw [if_pos]
  · unfold valL
    rw [hb, if_neg (by simp), dval_cons, List.length_replicate, dval_zeros]
    have e : ((49 : UInt8).toNat - 48) = 1 := rfl
    rw [e]
    simp
  · unfold validL
    rw [hb, List.all_cons, zeros_all]
    simp
    refine ⟨by omega, by decide⟩
theorem pw_pos (k : Nat) : (0 : Int) < ((10 ^ k : Nat) : Int) := by
  have := Nat.pow_pos (n := k) (show 0 < 10 by omega)
  omega
/-- A fraction's part in whole multiples of the grid. -/
def gridZ (k : Nat) (p : Rat) : Int := p.num * ((10 ^ k : Nat) : Int)
def roundZ (up : Bool) (k : Nat) (p : Rat) : Int := if up && decide (gridZ k p % p.den ≠ 0) then gridZ k p / p.den + 1 else gridZ k p / p.den
/-- The multiple of a grid below or above a fraction. -/
def roundQ (up : Bool) (n : Int) (p : Rat) : Option Rat := if 0 ≤ n ∧ n ≤ 30 ∧ sm (gridZ n.toNat p) then some (Rat.divInt (roundZ up n.toNat p) ((10 ^ n.toNat : Nat) : Int)) else none
theorem round_small {k : Nat} {p : Rat} (hp : sm (p.den : Int)) (h : sm (gridZ k p)) : sm (gridZ k p / p.den) ∧ sm (gridZ k p % p.den) ∧ (gridZ k p % p.den ≠ 0 → sm (gridZ k p / p.den + 1)) := by
  have hd : (0 : Int) < p.den := by have := p.den_pos; omega
  generalize gridZ k p = z at *
  generalize (p.den : Int) = d at *
  unfold sm at h hp ⊢
  have h1 := Int.natAbs_ediv_le_natAbs z d
  have m0 := Int.emod_nonneg z (show d ≠ 0 by omega)
  have m1 := Int.emod_lt_of_pos z hd
  have e := Int.ediv_mul_add_emod z d
  refine ⟨Nat.lt_of_le_of_lt h1 h, by omega, fun hne => ?_⟩
  have e200 : (4 : Nat) < 10 ^ 200 := by decide
  generalize (10 ^ 200 : Nat) = B at *
  by_cases hq : 0 ≤ z / d
  · have h2 : z / d * 2 ≤ z / d * d := Int.mul_le_mul_of_nonneg_left (by omega) hq
    omega
  · omega

end Go.Proofs.YtffndcjmabjhiaaGreatDoor

namespace Go.Proofs.YtffndcjmabjhiaaGreatDoor
open Go.RowKit Num
open Go.Shelf

theorem addQ_some {p q r : Rat} (h : addQ p q = some r) : r = p + q := by
  unfold addQ at h
  split at h
  · exact (Option.some.inj h).symm
  · cases h
theorem subQ_some {p q r : Rat} (h : subQ p q = some r) : r = p - q := by
  unfold subQ at h
  split at h
  · exact (Option.some.inj h).symm
  · cases h
theorem mulQ_some {p q r : Rat} (h : mulQ p q = some r) : r = p * q := by
  unfold mulQ at h
  split at h
  · exact (Option.some.inj h).symm
  · cases h
theorem divQ_some {p q r : Rat} (h : divQ p q = some r) : r = p / q ∧ q ≠ 0 := by
  unfold divQ at h
  split at h
  · rename_i hc
    exact ⟨(Option.some.inj h).symm, hc.2.2⟩
  · cases h
theorem addQ_comm (p q : Rat) : addQ p q = addQ q p := by
  unfold addQ
  have e1 : (q.den : Int) * p.den = (p.den : Int) * q.den := Int.mul_comm _ _
  have e2 : q.num * p.den + p.num * q.den = p.num * q.den + q.num * p.den := Int.add_comm _ _
  rw [e1, e2, Rat.add_comm q p]
  by_cases h1 : sm (p.num * q.den) <;> by_cases h2 : sm (q.num * p.den) <;> simp [h1, h2]
theorem mulQ_comm (p q : Rat) : mulQ p q = mulQ q p := by
  unfold mulQ
  rw [Int.mul_comm q.num p.num, Int.mul_comm (q.den : Int) p.den, Rat.mul_comm q p]
/-- Results of the operations are fractions that can be written. -/
theorem fit_of_divInt {n d : Int} (hn : sm n) (hd : sm d) (h0 : d ≠ 0) : fitQ (Rat.divInt n d) := divInt_small hn hd h0
theorem den_ne (p : Rat) : (p.den : Int) ≠ 0 := by have := p.den_pos; omega
theorem addQ_fit {p q r : Rat} (h : addQ p q = some r) : fitQ r := by
  have e := addQ_some h
  unfold addQ at h
  split at h
  · rename_i hc
    rw [e, add_divInt]
    exact fit_of_divInt hc.2.2.1 hc.2.2.2 (Int.mul_ne_zero (den_ne p) (den_ne q))
  · cases h
theorem subQ_fit {p q r : Rat} (h : subQ p q = some r) : fitQ r := by
  have e := subQ_some h
  unfold subQ at h
  split at h
  · rename_i hc
    rw [e, sub_divInt]
    exact fit_of_divInt hc.2.2.1 hc.2.2.2 (Int.mul_ne_zero (den_ne p) (den_ne q))
  · cases h
theorem mulQ_fit {p q r : Rat} (h : mulQ p q = some r) : fitQ r := by
  have e := mulQ_some h
  unfold mulQ at h
  split at h
  · rename_i hc
    rw [e, mul_divInt]
    exact fit_of_divInt hc.1 hc.2 (Int.mul_ne_zero (den_ne p) (den_ne q))
  · cases h
theorem divQ_fit {p q r : Rat} (h : divQ p q = some r) : fitQ r := by
  have e := (divQ_some h).1
  unfold divQ at h
  split at h
  · rename_i hc
    rw [e, quo_divInt]
    exact fit_of_divInt hc.1 hc.2.1 (Int.mul_ne_zero (den_ne p) (fun k => hc.2.2 (Rat.num_eq_zero.1 k)))
  · cases h
theorem op2Q_none (f : Rat → Rat → Option Rat) (b : Option Rat) : op2Q f none b = none := rfl
theorem op2Q_some (f : Rat → Rat → Option Rat) (p q : Rat) : op2Q f (some p) (some q) = f p q := rfl
theorem rat_of {o : Option Rat} (h : ∀ q, o = some q → fitQ q) : ratO (numT o) (denT o) = o := by
  cases o with
  | none => rfl
  | some q => exact ratO_some.2 (fr_fit (h q rfl))

end Go.Proofs.YtffndcjmabjhiaaGreatDoor

namespace Go.Proofs.YtffndcjmabjhiaaGreatDoor
open Go.RowKit Num
open Go.Shelf

/-- Block Q of the memory holds these values and nothing else; nobody has frozen it. -/
def Blk (W : World) (Q : Nat) (T : TypeId) (vs : List Value) : Prop := W.heap[Q]? = some (.cells vs.toArray T (0, 0))
theorem Blk.lt {W : World} {Q : Nat} {T : TypeId} {vs : List Value} (h : Blk W Q T vs) : Q < W.heap.size := (Array.getElem?_eq_some_iff.1 h).1
theorem Blk.cell {W : World} {Q : Nat} {T : TypeId} {vs : List Value} (h : Blk W Q T vs) (j : Nat) {v : Value} (hj : vs[j]? = some v) : W.cell? ⟨Q, j, none⟩ = some v := by
  simp [World.cell?, show W.heap[Q]? = _ from h, hj]
theorem Blk.frozen {W : World} {Q : Nat} {T : TypeId} {vs : List Value} (h : Blk W Q T vs) (j : Nat) : W.frozen? ⟨Q, j, none⟩ = false := by
  simp [World.frozen?, show W.heap[Q]? = _ from h]
theorem Blk.set {W : World} {Q : Nat} {T : TypeId} {vs : List Value} (h : Blk W Q T vs) (j : Nat) (u : Value) : Blk (W.setCell ⟨Q, j, none⟩ u) Q T (vs.set j u) := by
  have h' : W.heap[Q]? = _ := h
  obtain ⟨hq, he⟩ := Array.getElem?_eq_some_iff.1 h'
  unfold Blk World.setCell
  simp [hq]
  rw [Array.getElem_modify_self, he]
  simp
theorem Blk.new (w : World) (T : TypeId) (vs : List Value) : Blk (w.alloc (.cells vs.toArray T)) w.heap.size T vs := by
  unfold Blk World.alloc
  simp
theorem Blk.new2 (w : World) (o : Obj) (T : TypeId) (vs : List Value) : Blk ((w.alloc o).alloc (.cells vs.toArray T)) (w.heap.size + 1) T vs := by
  have h := Blk.new (w.alloc o) T vs
  rwa [show (w.alloc o).heap.size = w.heap.size + 1 by simp] at h
theorem Blk.new3 (w : World) (o o' : Obj) (T : TypeId) (vs : List Value) : Blk (((w.alloc o).alloc o').alloc (.cells vs.toArray T)) (w.heap.size + 1 + 1) T vs := by
  have h := Blk.new2 (w.alloc o) o' T vs
  rwa [show (w.alloc o).heap.size = w.heap.size + 1 by simp] at h
theorem Blk.block {W W' : World} {Q : Nat} {T : TypeId} {vs : List Value} (h : Blk W Q T vs) (he : W'.heap[Q]? = W.heap[Q]?) : Blk W' Q T vs := he.trans h
theorem Blk.below {W W' : World} {Q : Nat} {T : TypeId} {vs : List Value} (h : Blk W Q T vs) (hb : Below W.heap.size W W') : Blk W' Q T vs := h.block (hb.block Q h.lt)
theorem Blk.other {W : World} {Q : Nat} {T : TypeId} {vs : List Value} (h : Blk W Q T vs) {B : Nat} (hne : Q ≠ B) (o : Nat) (u : Value) : Blk (W.setCell ⟨B, o, none⟩ u) Q T vs :=
  h.block ((Turn.setCell (X := [B]) W B o u (by simp)).block Q h.lt (by simp [hne]))
theorem Blk.turn {X : List Nat} {W W' : World} {Q : Nat} {T : TypeId} {vs : List Value} (h : Blk W Q T vs) (ht : Turn X W W') (hQ : Q ∉ X) : Blk W' Q T vs := h.block (ht.block Q h.lt hQ)
theorem Blk.alloc {W : World} {Q : Nat} {T : TypeId} {vs : List Value} (h : Blk W Q T vs) (o : Obj) : Blk (W.alloc o) Q T vs := h.below (below1 W o)
/-- A slot that points to a new block with these values; nothing else in memory has changed. -/
def BoxOut (W : World) (g : Nat) (T : TypeId) (vs : List Value) (s : Value) (wx : World) : Prop := s = .pointer (some ⟨g, 0, none⟩) ∧ Blk wx g T vs ∧ Below W.heap.size W wx

end Go.Proofs.YtffndcjmabjhiaaGreatDoor

namespace Go.Proofs.YtffndcjmabjhiaaGreatDoor
open Go.RowKit Num
open Go.Shelf

theorem add_r {x y u v : ByteArray} {a b o : Option Rat} (h1 : ratO x y = a) (h2 : ratO u v = b) (ho : op2Q addQ a b = o) (w : World) (hL : Laid w) :
    Calls Tryz.prog 106 #[.agg #[.string x, .string y], .agg #[.string u, .string v]] w (RetQ w o) := by
  subst h1 h2 ho; exact qadd_any x y u v w hL
theorem sub_r {x y u v : ByteArray} {a b o : Option Rat} (h1 : ratO x y = a) (h2 : ratO u v = b) (ho : op2Q subQ a b = o) (w : World) (hL : Laid w) :
    Calls Tryz.prog 23 #[.agg #[.string x, .string y], .agg #[.string u, .string v]] w (RetQ w o) := by
  subst h1 h2 ho; exact qsub_any x y u v w hL
theorem mul_r {x y u v : ByteArray} {a b o : Option Rat} (h1 : ratO x y = a) (h2 : ratO u v = b) (ho : op2Q mulQ a b = o) (w : World) (hL : Laid w) :
    Calls Tryz.prog 107 #[.agg #[.string x, .string y], .agg #[.string u, .string v]] w (RetQ w o) := by
  subst h1 h2 ho; exact qmul_any x y u v w hL
theorem div_r {x y u v : ByteArray} {a b o : Option Rat} (h1 : ratO x y = a) (h2 : ratO u v = b) (ho : op2Q divQ a b = o) (w : World) (hL : Laid w) :
    Calls Tryz.prog 108 #[.agg #[.string x, .string y], .agg #[.string u, .string v]] w (RetQ w o) := by
  subst h1 h2 ho; exact qdiv_any x y u v w hL
theorem cmp_r {x y u v : ByteArray} {a b : Option Rat} {c : Int} (h1 : ratO x y = a) (h2 : ratO u v = b) (hc : cmpO a b = c) (w : World) (hL : Laid w) :
    Calls Tryz.prog 17 #[.agg #[.string x, .string y], .agg #[.string u, .string v]] w (RetI w c) := by
  subst h1 h2 hc; exact qcompare_any x y u v w hL
theorem qvalid_r {x y : ByteArray} {a : Option Rat} {b : Bool} (h1 : ratO x y = a) (hb : a.isSome = b) (w : World) (hL : Laid w) :
    Calls Tryz.prog 63 #[.agg #[.string x, .string y]] w (RetB w b) := by
  subst h1 hb; rw [← okR_eq]; exact qvalid_any x y w hL
theorem of_r {n d : Int} {o : Option Rat} (hn0 : -9223372036854775808 ≤ n) (hn1 : n ≤ 9223372036854775807) (hd0 : -9223372036854775808 ≤ d) (hd1 : d ≤ 9223372036854775807) (ho : makeQ n d = o) (w : World) (hL : Laid w) :
    Calls Tryz.prog 129 #[.int .i64 n, .int .i64 d] w (RetQ w o) := by
  subst ho; exact qof_any n d hn0 hn1 hd0 hd1 w hL
theorem make_r {x y : ByteArray} {n d : Int} {o : Option Rat} (hx : Is x n) (hy : Is y d) (ho : makeQ n d = o) (w : World) (hL : Laid w) :
    Calls Tryz.prog 55 #[.string x, .string y] w (RetQ w o) := by
  subst ho; rw [← makeT_is hx hy]; exact qmake_any x y w hL

/-- A fraction that can be written, if there is one. -/
def Fit (o : Option Rat) : Prop := ∀ q, o = some q → fitQ q
theorem Fit.rat {o : Option Rat} (h : Fit o) : ratO (numT o) (denT o) = o := rat_of h
theorem fit_add (a b : Option Rat) : Fit (op2Q addQ a b) := by
  cases a with
  | none => intro q h; cases h
  | some p => cases b with
    | none => intro q h; cases h
    | some q => intro r h; exact addQ_fit h
theorem fit_sub (a b : Option Rat) : Fit (op2Q subQ a b) := by
  cases a with
  | none => intro q h; cases h
  | some p => cases b with
    | none => intro q h; cases h
    | some q => intro r h; exact subQ_fit h
theorem fit_mul (a b : Option Rat) : Fit (op2Q mulQ a b) := by
  cases a with
  | none => intro q h; cases h
  | some p => cases b with
    | none => intro q h; cases h
    | some q => intro r h; exact mulQ_fit h
theorem fit_div (a b : Option Rat) : Fit (op2Q divQ a b) := by
  cases a with
  | none => intro q h; cases h
  | some p => cases b with
    | none => intro q h; cases h
    | some q => intro r h; exact divQ_fit h
theorem fit_some {q : Rat} (h : fitQ q) : Fit (some q) := fun _ e => Option.some.inj e ▸ h
theorem rat_lit {x y : ByteArray} {q : Rat} (h1 : Is x q.num) (h2 : Is y (q.den : Int)) : ratO x y = some q := ratO_some.2 ⟨h1, h2⟩
theorem rat_01 : ratO ⟨#[48]⟩ ⟨#[49]⟩ = some 0 := rat_lit lit_0 lit_1
theorem rat_11 : ratO ⟨#[49]⟩ ⟨#[49]⟩ = some 1 := rat_lit lit_1 lit_1

/-- A fraction, and an error that is named. -/
def RetQk (w : World) (o : Option Rat) (k : Int) (e : Ending) (w' : World) : Prop := e = .returned (.tuple #[.agg #[.string (numT o), .string (denT o)], .int .i64 k]) ∧ Below w.heap.size w w'
theorem qk {P : Program} {F : Nat} {args : Array Value} {w : World} {o : Option Rat} (h : Calls P F args w (RetQ w o)) : Calls P F args w (RetQk w o (errT o)) := h
/-- A struct of two strings. -/
def RetA (w : World) (x y : ByteArray) (e : Ending) (w' : World) : Prop := e = .returned (.agg #[.string x, .string y]) ∧ Below w.heap.size w w'
/-- A number from 0 to n-1, and no change. -/
def RetPick (w : World) (n : Int) (e : Ending) (w' : World) : Prop := ∃ k : Int, 0 ≤ k ∧ k < n ∧ e = .returned (.int .i64 k) ∧ w = w'
set_option maxRecDepth 100000 in
theorem tpick_any (c n : Int) (hc0 : -9223372036854775808 ≤ c) (hc1 : c ≤ 9223372036854775807) (hn : 0 < n) (hn1 : n ≤ 9223372036854775807) (w : World) :
    Calls Tryz.prog 137 #[.int .i64 c, .int .i64 n] w (RetPick w n) := by
  by_cases h : c < 0
  · go_enter Tryz.func137, Tryz.ntmps137
    go_wp2
    go_ret
    exact ⟨-((c + 1).tmod n), by rw [← Int.neg_tmod, Int.tmod_eq_emod_of_nonneg (by omega)]; exact Int.emod_nonneg _ (by omega), by rw [← Int.neg_tmod, Int.tmod_eq_emod_of_nonneg (by omega)]; exact Int.emod_lt_of_pos _ hn, rfl, rfl⟩
  · have h' : 0 ≤ c := by omega
    go_enter Tryz.func137, Tryz.ntmps137
    go_wp2
    go_ret
    exact ⟨c % n, Int.emod_nonneg _ (by omega), Int.emod_lt_of_pos _ hn, rfl, rfl⟩

end Go.Proofs.YtffndcjmabjhiaaGreatDoor
