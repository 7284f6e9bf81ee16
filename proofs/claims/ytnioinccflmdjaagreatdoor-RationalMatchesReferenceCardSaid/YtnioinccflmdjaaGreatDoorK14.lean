/- Blocks of memory that are known whole; the small helpers of package workpiecelaw04. Conditions: sizes. Package rational at fractions that may be missing; is, pick and minus of package workpiecelaw04. Conditions: sizes; the tables of strconv. Package rational: Print. Conditions: sizes; the tables of strconv. strings.Cut at a slash. Conditions: none. Package rational: Parse. Conditions: sizes; the tables of strconv. -/
import Derived.Test.YtnioinccflmdjaaGreatDoorK9
import Derived.Test.YtnioinccflmdjaaGreatDoorK13
import Derived.Deep.DeepCutAuto
import Derived.Test.YtnioinccflmdjaaGreatDoorK8
import Derived.Shelf.Strings.Cut
import Derived.Shelf.RegionOpenPlain
import Derived.BigCall
import Derived.BigGuard
import Derived.Deep.Draws
import Derived.Test.YtnioinccflmdjaaGreatDoorU1
namespace Go.Proofs.YtnioinccflmdjaaGreatDoor
open Go.RowKit Num
open Go.Shelf

/-- Block Q of the memory holds these values and nothing else; nobody has frozen it. -/
def Blk (W : World) (Q : Nat) (T : TypeId) (vs : List Value) : Prop := W.heap[Q]? = some (.cells vs.toArray T (0, 0))
theorem Blk.lt {W : World} {Q : Nat} {T : TypeId} {vs : List Value} (h : Blk W Q T vs) : Q < W.heap.size := (Array.getElem?_eq_some_iff.1 h).1
theorem Blk.cell {W : World} {Q : Nat} {T : TypeId} {vs : List Value} (h : Blk W Q T vs) (j : Nat) {v : Value} (hj : vs[j]? = some v) : W.cell? ⟨Q, j, none⟩ = some v := by
  simp [World.cell?, show W.heap[Q]? = _ from h, hj]
theorem Blk.frozen {W : World} {Q : Nat} {T : TypeId} {vs : List Value} (h : Blk W Q T vs) (j : Nat) : W.frozen? ⟨Q, j, none⟩ = false := by
  simp [World.frozen?, show W.heap[Q]? = _ from h]
theorem Blk.set {W : World} {Q : Nat} {T : TypeId} {vs : List Value} (h : Blk W Q T vs) (j : Nat) (u : Value) : Blk (W.setCell ⟨Q, j, none⟩ u) Q T (vs.set j u) := by
  have h' : W.heap[Q]? = _ := h
  obtain ⟨hq, he⟩ := Array.getElem?_eq_some_iff.1 h'
  unfold Blk World.setCell
  simp [hq]
  rw [Array.getElem_modify_self, he]
  simp
theorem Blk.new (w : World) (T : TypeId) (vs : List Value) : Blk (w.alloc (.cells vs.toArray T)) w.heap.size T vs := by
  unfold Blk World.alloc
  simp
theorem Blk.new2 (w : World) (o : Obj) (T : TypeId) (vs : List Value) : Blk ((w.alloc o).alloc (.cells vs.toArray T)) (w.heap.size + 1) T vs := by
  have h := Blk.new (w.alloc o) T vs
  rwa [show (w.alloc o).heap.size = w.heap.size + 1 by simp] at h
theorem Blk.new3 (w : World) (o o' : Obj) (T : TypeId) (vs : List Value) : Blk (((w.alloc o).alloc o').alloc (.cells vs.toArray T)) (w.heap.size + 1 + 1) T vs := by
  have h := Blk.new2 (w.alloc o) o' T vs
  rwa [show (w.alloc o).heap.size = w.heap.size + 1 by simp] at h
theorem Blk.block {W W' : World} {Q : Nat} {T : TypeId} {vs : List Value} (h : Blk W Q T vs) (he : W'.heap[Q]? = W.heap[Q]?) : Blk W' Q T vs := he.trans h
theorem Blk.below {W W' : World} {Q : Nat} {T : TypeId} {vs : List Value} (h : Blk W Q T vs) (hb : Below W.heap.size W W') : Blk W' Q T vs := h.block (hb.block Q h.lt)
theorem Blk.other {W : World} {Q : Nat} {T : TypeId} {vs : List Value} (h : Blk W Q T vs) {B : Nat} (hne : Q ≠ B) (o : Nat) (u : Value) : Blk (W.setCell ⟨B, o, none⟩ u) Q T vs :=
  h.block ((Turn.setCell (X := [B]) W B o u (by simp)).block Q h.lt (by simp [hne]))
theorem Blk.turn {X : List Nat} {W W' : World} {Q : Nat} {T : TypeId} {vs : List Value} (h : Blk W Q T vs) (ht : Turn X W W') (hQ : Q ∉ X) : Blk W' Q T vs := h.block (ht.block Q h.lt hQ)
theorem Blk.alloc {W : World} {Q : Nat} {T : TypeId} {vs : List Value} (h : Blk W Q T vs) (o : Obj) : Blk (W.alloc o) Q T vs := h.below (below1 W o)
/-- A slot that points to a new block with these values; nothing else in memory has changed. -/
def BoxOut (W : World) (g : Nat) (T : TypeId) (vs : List Value) (s : Value) (wx : World) : Prop := s = .pointer (some ⟨g, 0, none⟩) ∧ Blk wx g T vs ∧ Below W.heap.size W wx

end Go.Proofs.YtnioinccflmdjaaGreatDoor

namespace Go.Proofs.YtnioinccflmdjaaGreatDoor
open Go.RowKit Num
open Go.Shelf

theorem add_r {x y u v : ByteArray} {a b o : Option Rat} (h1 : ratO x y = a) (h2 : ratO u v = b) (ho : op2Q addQ a b = o) (w : World) (hL : Laid w) :
    Calls Tryz.prog 27 #[.agg #[.string x, .string y], .agg #[.string u, .string v]] w (RetQ w o) := by
  subst h1 h2 ho; exact qadd_any x y u v w hL
theorem sub_r {x y u v : ByteArray} {a b o : Option Rat} (h1 : ratO x y = a) (h2 : ratO u v = b) (ho : op2Q subQ a b = o) (w : World) (hL : Laid w) :
    Calls Tryz.prog 44 #[.agg #[.string x, .string y], .agg #[.string u, .string v]] w (RetQ w o) := by
  subst h1 h2 ho; exact qsub_any x y u v w hL
theorem mul_r {x y u v : ByteArray} {a b o : Option Rat} (h1 : ratO x y = a) (h2 : ratO u v = b) (ho : op2Q mulQ a b = o) (w : World) (hL : Laid w) :
    Calls Tryz.prog 25 #[.agg #[.string x, .string y], .agg #[.string u, .string v]] w (RetQ w o) := by
  subst h1 h2 ho; exact qmul_any x y u v w hL
theorem div_r {x y u v : ByteArray} {a b o : Option Rat} (h1 : ratO x y = a) (h2 : ratO u v = b) (ho : op2Q divQ a b = o) (w : World) (hL : Laid w) :
    Calls Tryz.prog 26 #[.agg #[.string x, .string y], .agg #[.string u, .string v]] w (RetQ w o) := by
  subst h1 h2 ho; exact qdiv_any x y u v w hL
theorem cmp_r {x y u v : ByteArray} {a b : Option Rat} {c : Int} (h1 : ratO x y = a) (h2 : ratO u v = b) (hc : cmpO a b = c) (w : World) (hL : Laid w) :
    Calls Tryz.prog 23 #[.agg #[.string x, .string y], .agg #[.string u, .string v]] w (RetI w c) := by
  subst h1 h2 hc; exact qcompare_any x y u v w hL
theorem qvalid_r {x y : ByteArray} {a : Option Rat} {b : Bool} (h1 : ratO x y = a) (hb : a.isSome = b) (w : World) (hL : Laid w) :
    Calls Tryz.prog 17 #[.agg #[.string x, .string y]] w (RetB w b) := by
  subst h1 hb; rw [← okR_eq]; exact qvalid_any x y w hL
theorem down_r {x y : ByteArray} {a o : Option Rat} {n : Int} (h1 : ratO x y = a) (ho : a.bind (roundQ false n) = o) (w : World) (hL : Laid w) :
    Calls Tryz.prog 35 #[.agg #[.string x, .string y], .int .i64 n] w (RetQ w o) := by
  subst h1 ho; exact qdown_any x y n w hL
theorem up_r {x y : ByteArray} {a o : Option Rat} {n : Int} (h1 : ratO x y = a) (ho : a.bind (roundQ true n) = o) (w : World) (hL : Laid w) :
    Calls Tryz.prog 37 #[.agg #[.string x, .string y], .int .i64 n] w (RetQ w o) := by
  subst h1 ho; exact qup_any x y n w hL
theorem of_r {n d : Int} {o : Option Rat} (hn0 : -9223372036854775808 ≤ n) (hn1 : n ≤ 9223372036854775807) (hd0 : -9223372036854775808 ≤ d) (hd1 : d ≤ 9223372036854775807) (ho : makeQ n d = o) (w : World) (hL : Laid w) :
    Calls Tryz.prog 41 #[.int .i64 n, .int .i64 d] w (RetQ w o) := by
  subst ho; exact qof_any n d hn0 hn1 hd0 hd1 w hL
theorem make_r {x y : ByteArray} {n d : Int} {o : Option Rat} (hx : Is x n) (hy : Is y d) (ho : makeQ n d = o) (w : World) (hL : Laid w) :
    Calls Tryz.prog 22 #[.string x, .string y] w (RetQ w o) := by
  subst ho; rw [← makeT_is hx hy]; exact qmake_any x y w hL

/-- A fraction that can be written, if there is one. -/
def Fit (o : Option Rat) : Prop := ∀ q, o = some q → fitQ q
theorem Fit.rat {o : Option Rat} (h : Fit o) : ratO (numT o) (denT o) = o := rat_of h
theorem fit_add (a b : Option Rat) : Fit (op2Q addQ a b) := by
  cases a with
  | none => intro q h; cases h
  | some p => cases b with
    | none => intro q h; cases h
    | some q => intro r h; exact addQ_fit h
theorem fit_sub (a b : Option Rat) : Fit (op2Q subQ a b) := by
  cases a with
  | none => intro q h; cases h
  | some p => cases b with
    | none => intro q h; cases h
    | some q => intro r h; exact subQ_fit h
theorem fit_mul (a b : Option Rat) : Fit (op2Q mulQ a b) := by
  cases a with
  | none => intro q h; cases h
  | some p => cases b with
    | none => intro q h; cases h
    | some q => intro r h; exact mulQ_fit h
theorem fit_div (a b : Option Rat) : Fit (op2Q divQ a b) := by
  cases a with
  | none => intro q h; cases h
  | some p => cases b with
    | none => intro q h; cases h
    | some q => intro r h; exact divQ_fit h
theorem fit_some {q : Rat} (h : fitQ q) : Fit (some q) := fun _ e => Option.some.inj e ▸ h
theorem rat_lit {x y : ByteArray} {q : Rat} (h1 : Is x q.num) (h2 : Is y (q.den : Int)) : ratO x y = some q := ratO_some.2 ⟨h1, h2⟩
theorem rat_01 : ratO ⟨#[48]⟩ ⟨#[49]⟩ = some 0 := rat_lit lit_0 lit_1
theorem rat_11 : ratO ⟨#[49]⟩ ⟨#[49]⟩ = some 1 := rat_lit lit_1 lit_1

/-- A fraction, and an error that is named. -/
def RetQk (w : World) (o : Option Rat) (k : Int) (e : Ending) (w' : World) : Prop := e = .returned (.tuple #[.agg #[.string (numT o), .string (denT o)], .int .i64 k]) ∧ Below w.heap.size w w'
theorem qk {P : Program} {F : Nat} {args : Array Value} {w : World} {o : Option Rat} (h : Calls P F args w (RetQ w o)) : Calls P F args w (RetQk w o (errT o)) := h
/-- A struct of two strings. -/
def RetA (w : World) (x y : ByteArray) (e : Ending) (w' : World) : Prop := e = .returned (.agg #[.string x, .string y]) ∧ Below w.heap.size w w'
set_option maxRecDepth 100000 in
theorem is_any (x y : ByteArray) (w : World) : Calls Tryz.prog 24 #[.string x, .string y] w (RetA w x y) := by
  go_enter Tryz.func24, Tryz.ntmps24
  go_wp2
  refine bodyPost_ret (v := .agg #[.string x, .string y]) (by simp [results, Tryz.results24, go_sem]) rfl ⟨rfl, ?_⟩
  exact below1 _ _

/-- A number from 0 to n-1, and no change. -/
def RetPick (w : World) (n : Int) (e : Ending) (w' : World) : Prop := ∃ k : Int, 0 ≤ k ∧ k < n ∧ e = .returned (.int .i64 k) ∧ w = w'
set_option maxRecDepth 100000 in
theorem pick_any (c n : Int) (hc0 : -9223372036854775808 ≤ c) (hc1 : c ≤ 9223372036854775807) (hn : 0 < n) (hn1 : n ≤ 9223372036854775807) (w : World) :
    Calls Tryz.prog 18 #[.int .i64 c, .int .i64 n] w (RetPick w n) := by
  by_cases h : c < 0
  · go_enter Tryz.func18, Tryz.ntmps18
    go_wp2
    go_ret
    exact ⟨-((c + 1).tmod n), by rw [← Int.neg_tmod, Int.tmod_eq_emod_of_nonneg (by omega)]; exact Int.emod_nonneg _ (by omega), by rw [← Int.neg_tmod, Int.tmod_eq_emod_of_nonneg (by omega)]; exact Int.emod_lt_of_pos _ hn, rfl, rfl⟩
  · have h' : 0 ≤ c := by omega
    go_enter Tryz.func18, Tryz.ntmps18
    go_wp2
    go_ret
    exact ⟨c % n, Int.emod_nonneg _ (by omega), Int.emod_lt_of_pos _ hn, rfl, rfl⟩
set_option maxRecDepth 100000 in
theorem tpick_any (c n : Int) (hc0 : -9223372036854775808 ≤ c) (hc1 : c ≤ 9223372036854775807) (hn : 0 < n) (hn1 : n ≤ 9223372036854775807) (w : World) :
    Calls Tryz.prog 46 #[.int .i64 c, .int .i64 n] w (RetPick w n) := by
  by_cases h : c < 0
  · go_enter Tryz.func46, Tryz.ntmps46
    go_wp2
    go_ret
    exact ⟨-((c + 1).tmod n), by rw [← Int.neg_tmod, Int.tmod_eq_emod_of_nonneg (by omega)]; exact Int.emod_nonneg _ (by omega), by rw [← Int.neg_tmod, Int.tmod_eq_emod_of_nonneg (by omega)]; exact Int.emod_lt_of_pos _ hn, rfl, rfl⟩
  · have h' : 0 ≤ c := by omega
    go_enter Tryz.func46, Tryz.ntmps46
    go_wp2
    go_ret
    exact ⟨c % n, Int.emod_nonneg _ (by omega), Int.emod_lt_of_pos _ hn, rfl, rfl⟩

end Go.Proofs.YtnioinccflmdjaaGreatDoor

namespace Go.Proofs.YtnioinccflmdjaaGreatDoor
open Go.RowKit Num
open Go.Shelf

def slash (x y : ByteArray) : ByteArray := ⟨(x.data.toList ++ 47 :: y.data.toList).toArray⟩
/-- The text of a fraction. -/
def prT (x y : ByteArray) : ByteArray := if okR x y then (if y = ⟨#[49]⟩ then x else slash x y) else ⟨#[]⟩
def RetS1 (w : World) (s : ByteArray) (e : Ending) (w' : World) : Prop := e = .returned (.string s) ∧ Below w.heap.size w w'
theorem join_two (x y : ByteArray) (hx : x.size ≤ 1000) (hy : y.size ≤ 1000) (W : World) (B : Nat) (h0 : W.cell? ⟨B, 0, none⟩ = some (.string x)) (h1 : W.cell? ⟨B, 1, none⟩ = some (.string y)) :
    Calls Tryz.prog 47 #[.slice (some ⟨B, 0, none⟩) 2 2, .string ⟨#[47]⟩] W (RetS1 W (slash x y)) := by
  have e : Lib.join ([x, y].map (·.data.toList)) ((⟨#[47]⟩ : ByteArray).data.toList) = x.data.toList ++ 47 :: y.data.toList := by
    simp [Lib.join, List.intercalate]
  have k := Tryz.strings_Join B 0 2 [x, y] ⟨#[47]⟩ W (fun j z hz => by
    match j, hz with
    | 0, hz => obtain rfl := Option.some.inj hz; exact h0
    | 1, hz => obtain rfl := Option.some.inj hz; exact h1
    | j + 2, hz => simp at hz) (cell_lt h0) (by simp) (by simp) (by
      rw [e]
      have e1 : x.data.toList.length = x.size := by simp
      have e2 : y.data.toList.length = y.size := by simp
      simp only [List.length_append, List.length_cons, e1, e2]
      omega)
  rw [e] at k
  exact k

set_option maxHeartbeats 2000000 in
set_option maxRecDepth 100000 in
theorem qprint_any (x y : ByteArray) (w : World) (hL : Laid w) : Calls Tryz.prog 14 #[.agg #[.string x, .string y]] w (RetS1 w (prT x y)) := by
  have V1 := Lib.hid (fun w hL => qvalid_any x y w hL)
  have HL := Lib.hid hL
  have hB := below1 w (.cells #[.string x, .string y] 23)
  have rb := RB.new w x y
  cases h : okR x y with
  | false =>
    rw [show prT x y = ⟨#[]⟩ by unfold prT; rw [h]; rfl]
    rw [h] at V1
    clear hL h
    go_enter Tryz.func14, Tryz.ntmps14
    go_wp2_with (go_at_call 17; (with_reducible refine (V1.out _ (HL.out.below hB)).mono ?_); rintro e w1 ⟨rfl, hb⟩; replace hB := below_up hB hb; replace rb := rb.below hb; clear hb; have p0 := rb.c0; have p1 := rb.c1)
    go_ret
    exact ⟨rfl, hB⟩
  | true =>
    obtain ⟨q, hq⟩ := okR_ex h
    rw [h] at V1
    have hy := hq.2
    by_cases h1 : y = ⟨#[49]⟩
    · rw [show prT x y = x by unfold prT; rw [h, if_pos h1]; rfl]
      subst h1
      clear hL h hq hy
      go_enter Tryz.func14, Tryz.ntmps14
      go_wp2_with (go_at_call 17; (with_reducible refine (V1.out _ (HL.out.below hB)).mono ?_); rintro e w1 ⟨rfl, hb⟩; replace hB := below_up hB hb; replace rb := rb.below hb; clear hb; have p0 := rb.c0; have p1 := rb.c1)
      go_ret
      exact ⟨rfl, hB⟩
    · rw [show prT x y = slash x y by unfold prT; rw [h, if_neg h1]; rfl]
      have hne : (y.toList == [49]) = false := by
        have : (q.den : Int) ≠ 1 := fun e => h1 (hy.uniq (lit_1.cast e.symm))
        have k := hy.differ lit_1 this
        rw [ByteArray.toList_eq (⟨#[49]⟩ : ByteArray)] at k
        exact k
      have hxs := hq.1.size
      have hys := hq.2.size
      have J := Lib.hid (fun W B h0 h1 => join_two x y (by omega) (by omega) W B h0 h1)
      clear hL h hq hy h1 hxs hys
      go_enter Tryz.func14, Tryz.ntmps14
      go_wp2_with (first
        | (go_at_call 17; (with_reducible refine (V1.out _ (HL.out.below hB)).mono ?_); rintro e w1 ⟨rfl, hb⟩; replace hB := below_up hB hb; replace rb := rb.below hb; clear hb; have p0 := rb.c0; have p1 := rb.c1)
        | (go_at_call 47; refine (J.out _ _ (by simp) (by simp)).mono ?_; rintro e w2 ⟨rfl, hb2⟩))
      go_ret
      exact ⟨rfl, below_up hB (below_up (below1 _ _) hb2)⟩

end Go.Proofs.YtnioinccflmdjaaGreatDoor

namespace Go.Proofs.YtnioinccflmdjaaGreatDoor
open Go.RowKit Num
open Go.Shelf

/-- What lies before and behind the first slash. -/
def cutT (s : ByteArray) : ByteArray × ByteArray × Bool := if Lib.indexByte s.data.toList 47 = -1 then (s, ⟨#[]⟩, false) else (s.extract 0 (Lib.indexByte s.data.toList 47).toNat, s.extract ((Lib.indexByte s.data.toList 47).toNat + 1) s.size, true)
def RetCut (w : World) (p : ByteArray × ByteArray × Bool) (e : Ending) (w' : World) : Prop := e = .returned (.tuple #[.string p.1, .string p.2.1, .bool p.2.2]) ∧ ∃ n, w' = w.drewN n
theorem index_slash (s : ByteArray) (w : World) : Calls Tryz.prog 101 #[.string s, .string ⟨#[47]⟩] w fun e w' => e = .returned (.int .i64 (Lib.indexByte s.data.toList 47)) ∧ w' = w :=
  Any.stringslite_Index_one { Tryz.lays145 with } s 47 w

set_option maxHeartbeats 2000000 in
set_option maxRecDepth 100000 in
theorem slcut_slash (s : ByteArray) (hs : s.size ≤ 9223372036854775807) (w : World) : Calls Tryz.prog 77 #[.string s, .string ⟨#[47]⟩] w (RetCut w (cutT s)) := by
  have I := Lib.hid (fun w => index_slash s w)
  have hge := Lib.indexByte_ge s.data.toList 47
  by_cases h : Lib.indexByte s.data.toList 47 = -1
  · rw [show cutT s = (s, ⟨#[]⟩, false) by unfold cutT; rw [if_pos h]]
    rw [h] at I
    clear h hge
    go_enter Tryz.func77, Tryz.ntmps77
    go_wp2_with (go_at_call 101; (with_reducible refine (I.out _).mono ?_); rintro e w1 ⟨rfl, rfl⟩)
    go_ret3
    exact ⟨rfl, 0, rfl⟩
  · obtain ⟨i, hi⟩ : ∃ i : Nat, Lib.indexByte s.data.toList 47 = (i : Int) := ⟨(Lib.indexByte s.data.toList 47).toNat, by omega⟩
    have hlt : i < s.size := by
      have := (Lib.indexByte_some hi).1
      have := (List.getElem?_eq_some_iff.1 this).1
      simpa using this
    rw [show cutT s = (s.extract 0 i, s.extract (i + 1) s.size, true) by unfold cutT; rw [if_neg h, hi]; rfl]
    rw [hi] at I
    clear h hge hi
    have c1 : (0 : Int) ≤ ↑i := by omega
    have c2 : (↑i : Int) ≤ ↑s.size := by omega
    have c3 : (0 : Int) ≤ ↑i + 1 := by omega
    have c4 : (↑i + 1 : Int) ≤ ↑s.size := by omega
    go_enter Tryz.func77, Tryz.ntmps77
    go_wp2_with (go_at_call 101; (with_reducible refine (I.out _).mono ?_); rintro e w1 ⟨rfl, rfl⟩)
    go_region
    go_wp2
    go_ret3
    exact ⟨rfl, 1, rfl⟩
theorem cut_slash (s : ByteArray) (hs : s.size ≤ 9223372036854775807) (w : World) : Calls Tryz.prog 48 #[.string s, .string ⟨#[47]⟩] w (RetCut w (cutT s)) := by
  have I := Lib.hid (fun w => slcut_slash s hs w)
  generalize cutT s = p at *
  obtain ⟨a, b, f⟩ := p
  go_enter Tryz.func48, Tryz.ntmps48
  go_wp2_with (go_at_call 77; (with_reducible refine (I.out _).mono ?_); rintro e w1 ⟨rfl, n, rfl⟩)
  go_ret3
  exact ⟨rfl, n, rfl⟩

end Go.Proofs.YtnioinccflmdjaaGreatDoor

namespace Go.Proofs.YtnioinccflmdjaaGreatDoor
open Go.RowKit Num
open Go.Shelf

def pairT (s : ByteArray) : ByteArray × ByteArray := if (cutT s).2.2 then ((cutT s).1, (cutT s).2.1) else ((cutT s).1, ⟨#[49]⟩)
/-- The texts of the fraction with a text. -/
def parT (s : ByteArray) : Option (ByteArray × ByteArray) := if prT (pairT s).1 (pairT s).2 = s ∧ s ≠ ⟨#[]⟩ then some (pairT s) else none
def RetPr (w : World) (o : Option (ByteArray × ByteArray)) (e : Ending) (w' : World) : Prop := (match o with
  | some p => e = .returned (.tuple #[.agg #[.string p.1, .string p.2], .int .i64 0])
  | none => e = .returned (.tuple #[.agg #[.string ⟨#[]⟩, .string ⟨#[]⟩], .int .i64 40])) ∧ Below w.heap.size w w'
theorem bytes_ext {t s : ByteArray} (h : t.toList = s.toList) : t = s := by
  rw [Lib.toList_data, Lib.toList_data] at h
  exact ByteArray.ext (Array.ext' h)
theorem ne_str {t s : ByteArray} (h : t ≠ s) : (t.toList == s.toList) = false := by
  rw [beq_eq_false_iff_ne]
  exact fun e => h (bytes_ext e)
theorem ne_empty {s : ByteArray} (h : s ≠ ⟨#[]⟩) : s.toList.isEmpty = false := by
  cases k : s.toList with
  | cons a l => rfl
  | nil => exact absurd (bytes_ext (by rw [k, Lib.toList_data])) h
theorem RB.drewN {W : World} {B : Nat} {x y : ByteArray} (h : RB W B x y) (n : Nat) : RB (W.drewN n) B x y := h.below (below_drewN (Below.refl _ _) n)
theorem RB.set0 {W : World} {B : Nat} {x y : ByteArray} (h : RB W B x y) (x' : ByteArray) : RB (W.setCell ⟨B, 0, none⟩ (.string x')) B x' y := by
  refine ⟨World.cell?_setCell_same' _ _ _ (by rw [h.c0]; rfl), ?_, ?_, ?_⟩
  · exact (World.cell?_setCell_other _ (⟨B, 0, none⟩ : Addr) ⟨B, 1, none⟩ _ (by simp)).trans h.c1
  · rw [World.frozen?_setCell]; exact h.f0
  · rw [World.frozen?_setCell]; exact h.f1
theorem RB.set1 {W : World} {B : Nat} {x y : ByteArray} (h : RB W B x y) (y' : ByteArray) : RB (W.setCell ⟨B, 1, none⟩ (.string y')) B x y' := by
  refine ⟨?_, World.cell?_setCell_same' _ _ _ (by rw [h.c1]; rfl), ?_, ?_⟩
  · exact (World.cell?_setCell_other _ (⟨B, 1, none⟩ : Addr) ⟨B, 0, none⟩ _ (by simp)).trans h.c0
  · rw [World.frozen?_setCell]; exact h.f0
  · rw [World.frozen?_setCell]; exact h.f1
theorem par_miss (w : World) (n : Nat) (x : ByteArray) : Below w.heap.size w (((two0 w ⟨#[]⟩ ⟨#[]⟩ ⟨#[]⟩ ⟨#[49]⟩).drewN n).setCell ⟨w.heap.size + 1, 0, none⟩ (.string x)) ∧ RB (((two0 w ⟨#[]⟩ ⟨#[]⟩ ⟨#[]⟩ ⟨#[49]⟩).drewN n).setCell ⟨w.heap.size + 1, 0, none⟩ (.string x)) w.heap.size ⟨#[]⟩ ⟨#[]⟩ ∧
    RB (((two0 w ⟨#[]⟩ ⟨#[]⟩ ⟨#[]⟩ ⟨#[49]⟩).drewN n).setCell ⟨w.heap.size + 1, 0, none⟩ (.string x)) (w.heap.size + 1) x ⟨#[49]⟩ := by
  have t : Turn [w.heap.size + 1] ((two0 w ⟨#[]⟩ ⟨#[]⟩ ⟨#[]⟩ ⟨#[49]⟩).drewN n) _ := Turn.setCell _ (w.heap.size + 1) 0 (.string x) (by simp)
  have hb := below_up (two_low w ⟨#[]⟩ ⟨#[]⟩ ⟨#[]⟩ ⟨#[49]⟩) (below_drewN (Below.refl _ _) n)
  exact ⟨t.below hb (Nat.le_refl _) (by simp), ((two_a w _ _ _ _).drewN n).turn t (by simp), ((two_b w _ _ _ _).drewN n).set0 x⟩
theorem par_hit (w : World) (n : Nat) (x y : ByteArray) : Below w.heap.size w ((((two0 w ⟨#[]⟩ ⟨#[]⟩ ⟨#[]⟩ ⟨#[49]⟩).drewN n).setCell ⟨w.heap.size + 1, 0, none⟩ (.string x)).setCell ⟨w.heap.size + 1, 1, none⟩ (.string y)) ∧ RB ((((two0 w ⟨#[]⟩ ⟨#[]⟩ ⟨#[]⟩ ⟨#[49]⟩).drewN n).setCell ⟨w.heap.size + 1, 0, none⟩ (.string x)).setCell ⟨w.heap.size + 1, 1, none⟩ (.string y)) w.heap.size ⟨#[]⟩ ⟨#[]⟩ ∧
    RB ((((two0 w ⟨#[]⟩ ⟨#[]⟩ ⟨#[]⟩ ⟨#[49]⟩).drewN n).setCell ⟨w.heap.size + 1, 0, none⟩ (.string x)).setCell ⟨w.heap.size + 1, 1, none⟩ (.string y)) (w.heap.size + 1) x y := by
  obtain ⟨h1, h2, h3⟩ := par_miss w n x
  have t : Turn [w.heap.size + 1] (((two0 w ⟨#[]⟩ ⟨#[]⟩ ⟨#[]⟩ ⟨#[49]⟩).drewN n).setCell ⟨w.heap.size + 1, 0, none⟩ (.string x)) _ := Turn.setCell _ (w.heap.size + 1) 1 (.string y) (by simp)
  exact ⟨t.below h1 (Nat.le_refl _) (by simp), h2.turn t (by simp), h3.set1 y⟩

set_option maxHeartbeats 2000000 in
set_option maxRecDepth 100000 in
theorem qparse_any (s : ByteArray) (hs : s.size ≤ 9223372036854775807) (w : World) (hL : Laid w) : Calls Tryz.prog 15 #[.string s] w (RetPr w (parT s)) := by
  have CU := Lib.hid (fun w => cut_slash s hs w)
  have HP : Hid (pairT s = if (cutT s).2.2 then ((cutT s).1, (cutT s).2.1) else ((cutT s).1, ⟨#[49]⟩)) := Lib.hid rfl
  have HL := Lib.hid hL
  generalize cutT s = p at *
  obtain ⟨x, y, f⟩ := p
  cases f with
  | false =>
    have e1 : pairT s = (x, ⟨#[49]⟩) := HP.out
    rw [show parT s = if prT x ⟨#[49]⟩ = s ∧ s ≠ ⟨#[]⟩ then some (x, ⟨#[49]⟩) else none by unfold parT; rw [e1]]
    have P := Lib.hid (fun w hL => qprint_any x ⟨#[49]⟩ w hL)
    generalize prT x ⟨#[49]⟩ = t at *
    clear e1 HP hs hL
    by_cases ht : t = s
    · by_cases h0 : s = ⟨#[]⟩
      · rw [if_neg (fun h => h.2 h0)]
        subst ht; subst h0
        go_enter Tryz.func15, Tryz.ntmps15
        go_wp2_with (first
          | (go_at_call 48; (refine (CU.out _).mono ?_); rintro e w1 ⟨rfl, n1, rfl⟩; obtain ⟨hB, ra, rb⟩ := par_miss w n1 x)
          | (go_at_call 14; (refine (P.out (((two0 w ⟨#[]⟩ ⟨#[]⟩ ⟨#[]⟩ ⟨#[49]⟩).drewN n1).setCell ⟨w.heap.size + 1, 0, none⟩ (.string x)) (HL.out.below hB)).mono ?_); rintro e w2 ⟨rfl, hb⟩; replace hB := below_up hB hb; replace ra := ra.below hb; replace rb := rb.below hb; clear hb; have p0 := ra.c0; have p1 := ra.c1; have q0 := rb.c0; have q1 := rb.c1; have f0 := ra.f0; have f1 := ra.f1; have g0 := rb.f0; have g1 := rb.f1))
        have RBF := ra.set ⟨#[]⟩ ⟨#[]⟩
        have e0 := RBF.c0
        have e1 := RBF.c1
        refine bodyPost_ret (v := .tuple #[.agg #[.string ⟨#[]⟩, .string ⟨#[]⟩], .int .i64 40]) (by simp [results, Tryz.results15, go_sem, e0, e1]) rfl ⟨rfl, below_new2 hB (Nat.le_refl _)⟩
      · rw [if_pos ⟨ht, h0⟩]
        have hs0 : s.toList.isEmpty = false := ne_empty h0
        clear h0
        subst ht
        go_enter Tryz.func15, Tryz.ntmps15
        go_wp2_with (first
          | (go_at_call 48; (refine (CU.out _).mono ?_); rintro e w1 ⟨rfl, n1, rfl⟩; obtain ⟨hB, ra, rb⟩ := par_miss w n1 x)
          | (go_at_call 14; (refine (P.out (((two0 w ⟨#[]⟩ ⟨#[]⟩ ⟨#[]⟩ ⟨#[49]⟩).drewN n1).setCell ⟨w.heap.size + 1, 0, none⟩ (.string x)) (HL.out.below hB)).mono ?_); rintro e w2 ⟨rfl, hb⟩; replace hB := below_up hB hb; replace ra := ra.below hb; replace rb := rb.below hb; clear hb; have p0 := ra.c0; have p1 := ra.c1; have q0 := rb.c0; have q1 := rb.c1; have f0 := ra.f0; have f1 := ra.f1; have g0 := rb.f0; have g1 := rb.f1))
        have RBF := ra.set x ⟨#[49]⟩
        have e0 := RBF.c0
        have e1 := RBF.c1
        refine bodyPost_ret (v := .tuple #[.agg #[.string x, .string ⟨#[49]⟩], .int .i64 0]) (by simp [results, Tryz.results15, go_sem, e0, e1]) rfl ⟨rfl, below_new2 hB (Nat.le_refl _)⟩
    · rw [if_neg (fun h => ht h.1)]
      have hts : (t.toList == s.toList) = false := ne_str ht
      clear ht
      go_enter Tryz.func15, Tryz.ntmps15
      go_wp2_with (first
        | (go_at_call 48; (refine (CU.out _).mono ?_); rintro e w1 ⟨rfl, n1, rfl⟩; obtain ⟨hB, ra, rb⟩ := par_miss w n1 x)
        | (go_at_call 14; (refine (P.out (((two0 w ⟨#[]⟩ ⟨#[]⟩ ⟨#[]⟩ ⟨#[49]⟩).drewN n1).setCell ⟨w.heap.size + 1, 0, none⟩ (.string x)) (HL.out.below hB)).mono ?_); rintro e w2 ⟨rfl, hb⟩; replace hB := below_up hB hb; replace ra := ra.below hb; replace rb := rb.below hb; clear hb; have p0 := ra.c0; have p1 := ra.c1; have q0 := rb.c0; have q1 := rb.c1; have f0 := ra.f0; have f1 := ra.f1; have g0 := rb.f0; have g1 := rb.f1))
      have RBF := ra.set ⟨#[]⟩ ⟨#[]⟩
      have e0 := RBF.c0
      have e1 := RBF.c1
      refine bodyPost_ret (v := .tuple #[.agg #[.string ⟨#[]⟩, .string ⟨#[]⟩], .int .i64 40]) (by simp [results, Tryz.results15, go_sem, e0, e1]) rfl ⟨rfl, below_new2 hB (Nat.le_refl _)⟩
  | true =>
    have e1 : pairT s = (x, y) := HP.out
    rw [show parT s = if prT x y = s ∧ s ≠ ⟨#[]⟩ then some (x, y) else none by unfold parT; rw [e1]]
    have P := Lib.hid (fun w hL => qprint_any x y w hL)
    generalize prT x y = t at *
    clear e1 HP hs hL
    by_cases ht : t = s
    · by_cases h0 : s = ⟨#[]⟩
      · rw [if_neg (fun h => h.2 h0)]
        subst ht; subst h0
        go_enter Tryz.func15, Tryz.ntmps15
        go_wp2_with (first
          | (go_at_call 48; (refine (CU.out _).mono ?_); rintro e w1 ⟨rfl, n1, rfl⟩; obtain ⟨hB, ra, rb⟩ := par_hit w n1 x y)
          | (go_at_call 14; (refine (P.out ((((two0 w ⟨#[]⟩ ⟨#[]⟩ ⟨#[]⟩ ⟨#[49]⟩).drewN n1).setCell ⟨w.heap.size + 1, 0, none⟩ (.string x)).setCell ⟨w.heap.size + 1, 1, none⟩ (.string y)) (HL.out.below hB)).mono ?_); rintro e w2 ⟨rfl, hb⟩; replace hB := below_up hB hb; replace ra := ra.below hb; replace rb := rb.below hb; clear hb; have p0 := ra.c0; have p1 := ra.c1; have q0 := rb.c0; have q1 := rb.c1; have f0 := ra.f0; have f1 := ra.f1; have g0 := rb.f0; have g1 := rb.f1))
        have RBF := ra.set ⟨#[]⟩ ⟨#[]⟩
        have e0 := RBF.c0
        have e1 := RBF.c1
        refine bodyPost_ret (v := .tuple #[.agg #[.string ⟨#[]⟩, .string ⟨#[]⟩], .int .i64 40]) (by simp [results, Tryz.results15, go_sem, e0, e1]) rfl ⟨rfl, below_new2 hB (Nat.le_refl _)⟩
      · rw [if_pos ⟨ht, h0⟩]
        have hs0 : s.toList.isEmpty = false := ne_empty h0
        clear h0
        subst ht
        go_enter Tryz.func15, Tryz.ntmps15
        go_wp2_with (first
          | (go_at_call 48; (refine (CU.out _).mono ?_); rintro e w1 ⟨rfl, n1, rfl⟩; obtain ⟨hB, ra, rb⟩ := par_hit w n1 x y)
          | (go_at_call 14; (refine (P.out ((((two0 w ⟨#[]⟩ ⟨#[]⟩ ⟨#[]⟩ ⟨#[49]⟩).drewN n1).setCell ⟨w.heap.size + 1, 0, none⟩ (.string x)).setCell ⟨w.heap.size + 1, 1, none⟩ (.string y)) (HL.out.below hB)).mono ?_); rintro e w2 ⟨rfl, hb⟩; replace hB := below_up hB hb; replace ra := ra.below hb; replace rb := rb.below hb; clear hb; have p0 := ra.c0; have p1 := ra.c1; have q0 := rb.c0; have q1 := rb.c1; have f0 := ra.f0; have f1 := ra.f1; have g0 := rb.f0; have g1 := rb.f1))
        have RBF := ra.set x y
        have e0 := RBF.c0
        have e1 := RBF.c1
        refine bodyPost_ret (v := .tuple #[.agg #[.string x, .string y], .int .i64 0]) (by simp [results, Tryz.results15, go_sem, e0, e1]) rfl ⟨rfl, below_new2 hB (Nat.le_refl _)⟩
    · rw [if_neg (fun h => ht h.1)]
      have hts : (t.toList == s.toList) = false := ne_str ht
      clear ht
      go_enter Tryz.func15, Tryz.ntmps15
      go_wp2_with (first
        | (go_at_call 48; (refine (CU.out _).mono ?_); rintro e w1 ⟨rfl, n1, rfl⟩; obtain ⟨hB, ra, rb⟩ := par_hit w n1 x y)
        | (go_at_call 14; (refine (P.out ((((two0 w ⟨#[]⟩ ⟨#[]⟩ ⟨#[]⟩ ⟨#[49]⟩).drewN n1).setCell ⟨w.heap.size + 1, 0, none⟩ (.string x)).setCell ⟨w.heap.size + 1, 1, none⟩ (.string y)) (HL.out.below hB)).mono ?_); rintro e w2 ⟨rfl, hb⟩; replace hB := below_up hB hb; replace ra := ra.below hb; replace rb := rb.below hb; clear hb; have p0 := ra.c0; have p1 := ra.c1; have q0 := rb.c0; have q1 := rb.c1; have f0 := ra.f0; have f1 := ra.f1; have g0 := rb.f0; have g1 := rb.f1))
      have RBF := ra.set ⟨#[]⟩ ⟨#[]⟩
      have e0 := RBF.c0
      have e1 := RBF.c1
      refine bodyPost_ret (v := .tuple #[.agg #[.string ⟨#[]⟩, .string ⟨#[]⟩], .int .i64 40]) (by simp [results, Tryz.results15, go_sem, e0, e1]) rfl ⟨rfl, below_new2 hB (Nat.le_refl _)⟩

end Go.Proofs.YtnioinccflmdjaaGreatDoor
