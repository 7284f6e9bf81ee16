/- Polynomials in memory: 'Pv w v l': the slice value v reads as the fractions l. Conditions: none. The small functions of package poly. Conditions: the tables of strconv; no operation fails. poly.Valid, lead, trimmed, and the coefficient with an index. Conditions: the tables of strconv; the fractions are valid. -/
import Derived.Test.YtffndcjmabjhiaaGreatDoorK14
import Derived.Test.YtffndcjmabjhiaaGreatDoorK17
import Derived.Test.YtffndcjmabjhiaaGreatDoorK3
namespace Go.Proofs.YtffndcjmabjhiaaGreatDoor
open Go.RowKit Num

/-- The cells of fractions. -/
def flat : List Rat → List Value
  | [] => []
  | q :: l => .string (numT (some q)) :: .string (denT (some q)) :: flat l
theorem flat_len (l : List Rat) : (flat l).length = l.length * 2 := by
  induction l with
  | nil => rfl
  | cons q l ih => show (flat l).length + 1 + 1 = _; rw [ih, List.length_cons]; omega
theorem flat_get (l : List Rat) (j : Nat) (h : j < l.length) : (flat l)[j * 2]? = some (.string (numT (some (cf l j)))) ∧ (flat l)[j * 2 + 1]? = some (.string (denT (some (cf l j)))) := by
  induction l generalizing j with
  | nil => simp at h
  | cons q l ih =>
    cases j with
    | zero => exact ⟨rfl, rfl⟩
    | succ j =>
      have := ih j (by simpa using h)
      rw [show (j + 1) * 2 = j * 2 + 1 + 1 by omega, show j * 2 + 1 + 1 + 1 = j * 2 + 1 + 1 + 1 from rfl]
      exact this
theorem flat_append (l k : List Rat) : flat (l ++ k) = flat l ++ flat k := by
  induction l with
  | nil => rfl
  | cons q l ih => show _ :: _ :: flat (l ++ k) = _; rw [ih]; rfl
theorem flat_set (l : List Rat) (j : Nat) (q : Rat) : ((flat l).set (j * 2) (.string (numT (some q)))).set (j * 2 + 1) (.string (denT (some q))) = flat (l.set j q) := by
  induction l generalizing j with
  | nil => rfl
  | cons x l ih =>
    cases j with
    | zero => rfl
    | succ j =>
      rw [show (j + 1) * 2 = j * 2 + 1 + 1 by omega]
      show _ :: _ :: ((flat l).set (j * 2) _).set (j * 2 + 1) _ = _
      rw [ih]; rfl

/-- The slice value v reads as the fractions l (a thousand of them at the most). -/
def Pv (w : World) (v : Value) (l : List Rat) : Prop :=
  ∃ (A : Option Addr) (c : Nat), v = .slice A l.length c ∧ (l.length ≤ c ∧ (A = none → c = 0)) ∧ (l.length ≤ 1000 ∧ ∀ i, fitQ (cf l i)) ∧
    (0 < l.length → ∃ b o, A = some ⟨b, o, none⟩ ∧ ∀ j, j < l.length → w.cell? ⟨b, o + j * 2, none⟩ = some (.string (numT (some (cf l j)))) ∧ w.cell? ⟨b, o + j * 2 + 1, none⟩ = some (.string (denT (some (cf l j)))))
theorem Pv.below {w w' : World} {v : Value} {l : List Rat} (h : Pv w v l) (hb : Below w.heap.size w w') : Pv w' v l := by
  obtain ⟨A, c, hv, hc, hm, hx⟩ := h
  refine ⟨A, c, hv, hc, hm, fun h0 => ?_⟩
  obtain ⟨b, o, hA, hx⟩ := hx h0
  exact ⟨b, o, hA, fun j hj => ⟨(hb.cell (cell_lt (hx j hj).1)).trans (hx j hj).1, (hb.cell (cell_lt (hx j hj).2)).trans (hx j hj).2⟩⟩
theorem fit_zero : fitQ 0 := by unfold fitQ; decide
theorem fit_nil (i : Nat) : fitQ (cf [] i) := fit_zero
theorem Pv.nil (w : World) : Pv w (.slice none 0 0) [] := ⟨none, 0, rfl, ⟨Nat.le_refl _, fun _ => rfl⟩, ⟨by simp, fit_nil⟩, fun h => by simp at h⟩
theorem Pv.fit {w : World} {v : Value} {l : List Rat} (h : Pv w v l) (i : Nat) : fitQ (cf l i) := let ⟨_, _, _, _, h, _⟩ := h; h.2 i
theorem Pv.small {w : World} {v : Value} {l : List Rat} (h : Pv w v l) : l.length ≤ 1000 := let ⟨_, _, _, _, h, _⟩ := h; h.1
/-- A part of a block of fractions. -/
theorem Blk.pv {w : World} {g : Nat} {l : List Rat} (h : Blk w g 29 (flat l)) (n c : Nat) (hn : n ≤ l.length) (hc : n ≤ c) (hm : l.length ≤ 1000) (hf : ∀ i, fitQ (cf l i)) : Pv w (.slice (some ⟨g, 0, none⟩) n c) (l.take n) := by
  have hl : (l.take n).length = n := by rw [List.length_take]; omega
  have hcf : ∀ i, cf (l.take n) i = if i < n then cf l i else 0 := fun i => by
    unfold cf
    rw [List.getD_eq_getElem?_getD, List.getD_eq_getElem?_getD]
    by_cases h : i < n
    · rw [List.getElem?_take_of_lt h, if_pos h]
    · rw [if_neg h, List.getElem?_eq_none (by rw [hl]; omega)]; rfl
  refine ⟨some ⟨g, 0, none⟩, c, by rw [hl], ⟨by omega, fun e => by cases e⟩, ⟨by omega, fun i => ?_⟩, fun _ => ⟨g, 0, rfl, fun j hj => ?_⟩⟩
  · rw [hcf]; split
    · exact hf i
    · exact fit_zero
  · rw [hcf, if_pos (by omega), Nat.zero_add]
    have := flat_get l j (by omega)
    exact ⟨h.cell _ this.1, h.cell _ this.2⟩
theorem Blk.pvAll {w : World} {g : Nat} {l : List Rat} (h : Blk w g 29 (flat l)) (c : Nat) (hc : l.length ≤ c) (hm : l.length ≤ 1000) (hf : ∀ i, fitQ (cf l i)) : Pv w (.slice (some ⟨g, 0, none⟩) l.length c) l := by
  have := h.pv l.length c (Nat.le_refl _) hc hm hf
  rwa [List.take_length] at this
theorem Blk.pvSet {w : World} {g : Nat} {l : List Rat} (h : Blk w g 29 (flat l)) (j : Nat) (q : Rat) : Blk ((w.setCell ⟨g, j * 2, none⟩ (.string (numT (some q)))).setCell ⟨g, j * 2 + 1, none⟩ (.string (denT (some q)))) g 29 (flat (l.set j q)) := by
  rw [← flat_set]
  exact (h.set (j * 2) _).set (j * 2 + 1) _
/-- The call returns a polynomial; what was there lies as it lay. -/
def RetL7 (w : World) (l : List Rat) (e : Ending) (w' : World) : Prop := ∃ v, e = .returned v ∧ Pv w' v l ∧ Below w.heap.size w w'
/-- The call returns a fraction. -/
def RetR (w : World) (q : Rat) (e : Ending) (w' : World) : Prop := e = .returned (.agg #[.string (numT (some q)), .string (denT (some q))]) ∧ Below w.heap.size w w'

end Go.Proofs.YtffndcjmabjhiaaGreatDoor

namespace Go.Proofs.YtffndcjmabjhiaaGreatDoor
open Go.RowKit Num
open Go.Shelf

theorem must_true (w : World) : Calls Tryz.prog 53 #[.bool true] w (fun e w' => e = .returned (.tuple #[]) ∧ w' = w) := by
  go_enter Tryz.func53, Tryz.ntmps53
  go_wp2
  go_end0
  exact ⟨rfl, rfl⟩
/-- What a computation panics with. -/
abbrev failV : PanicEntry := { v := .iface 197 (.agg #[]), recovered := false }
theorem must_false (w : World) : Calls Tryz.prog 53 #[.bool false] w (fun e w' => e = .panicked [failV] ∧ w' = w) := by
  go_enter Tryz.func53, Tryz.ntmps53
  go_wp2
  exact ⟨rfl, rfl, rfl⟩
/-- The call returns nothing; what was there lies as it lay. -/
def RetU (w : World) (e : Ending) (w' : World) : Prop := e = .returned (.tuple #[]) ∧ Below w.heap.size w w'
theorem must_u (w : World) : Calls Tryz.prog 53 #[.bool true] w (RetU w) := (must_true w).mono fun _ _ k => ⟨k.1, by rw [k.2]; exact Below.refl _ _⟩
theorem rat_tx {q : Rat} (h : fitQ q) : ratO (numT (some q)) (denT (some q)) = some q := ratO_some.2 (fr_fit h)
set_option maxRecDepth 100000 in
theorem checked_ok (x y : ByteArray) (w : World) : Calls Tryz.prog 54 #[.agg #[.string x, .string y], .int .i64 0] w (RetA w x y) := by
  have M := Lib.hid (fun w => must_u w)
  have hB : Below w.heap.size w w := Below.refl _ _
  go_enter Tryz.func54, Tryz.ntmps54
  go_wp2_with (first
      | (go_at_call 53; (with_reducible refine (M.out _).mono ?_); rintro e w1 ⟨rfl, hb⟩; have hp := below_up (below_up (below1 w (.cells #[.string x, .string y] 29)) (below1 ((w.alloc (.cells #[.string x, .string y] 29))) (.cells #[.string ⟨#[]⟩, .string ⟨#[]⟩] 29))) hb; have Bp := ((Blk.new w 29 [.string x, .string y]).alloc _).below hb; have Bz := (Blk.new2 w (.cells #[.string x, .string y] 29) 29 [.string ⟨#[]⟩, .string ⟨#[]⟩]).below hb; replace hB := below_up hB hp; clear hb hp; have cp_0 := Bp.cell 0 (v := .string x) rfl; have cp_1 := Bp.cell 1 (v := .string y) rfl; have f0 := Bz.frozen 0; have z0 := Bz.cell 0 (v := .string ⟨#[]⟩) rfl; have f1 := Bz.frozen 1; have z1 := Bz.cell 1 (v := .string ⟨#[]⟩) rfl))
  have ZF := (Bz.set 0 (.string x)).set 1 (.string y)
  have e0 := ZF.cell 0 (v := .string x) rfl
  have e1 := ZF.cell 1 (v := .string y) rfl
  refine bodyPost_ret (v := .agg #[.string x, .string y]) (by simp [results, Tryz.results54, go_sem, e0, e1]) rfl ⟨rfl, ?_⟩
  exact (hB.setCell (by dsimp; omega) _).setCell (by dsimp; omega) _
theorem make_one (n : Int) : makeQ n 1 = some (n : Rat) := by
  unfold makeQ
  rw [if_neg (by decide)]
  congr 1
  rw [Rat.divInt_eq_div]
  have : ((1 : Int) : Rat) = 1 := rfl
  rw [this]; grind
set_option maxRecDepth 100000 in
theorem whole_any (n : Int) (h0 : -9223372036854775808 ≤ n) (h1 : n ≤ 9223372036854775807) (w : World) (hL : Laid w) : Calls Tryz.prog 62 #[.int .i64 n] w (RetR w (n : Rat)) := by
  have C := Lib.hid (fun w hL => of_r h0 h1 (d := 1) (by decide) (by decide) (make_one n) w hL)
  clear h0 h1
  have hB : Below w.heap.size w w := Below.refl _ _
  generalize (n : Rat) = q at *
  go_enter Tryz.func62, Tryz.ntmps62
  go_wp2_with (first
      | (go_at_call 129; (with_reducible refine (C.out _ (hL.below (below1 w (.cells #[.string ⟨#[]⟩, .string ⟨#[]⟩] 29)))).mono ?_); rintro e w1 ⟨rfl, hb⟩; have hp := below_up (below1 w (.cells #[.string ⟨#[]⟩, .string ⟨#[]⟩] 29)) hb; have Bz := (Blk.new w 29 [.string ⟨#[]⟩, .string ⟨#[]⟩]).below hb; replace hL := hL.below hp; replace hB := below_up hB hp; clear hb hp; replace Bz := Bz.alloc (.cells #[.string (numT (some q)), .string (denT (some q))] 29); replace hB := below_up hB (below1 w1 (.cells #[.string (numT (some q)), .string (denT (some q))] 29)); have f0 := Bz.frozen 0; have z0 := Bz.cell 0 (v := .string ⟨#[]⟩) rfl; have f1 := Bz.frozen 1; have z1 := Bz.cell 1 (v := .string ⟨#[]⟩) rfl))
  have ZF := (Bz.set 0 (.string (numT (some q)))).set 1 (.string (denT (some q)))
  have e0 := ZF.cell 0 (v := .string (numT (some q))) rfl
  have e1 := ZF.cell 1 (v := .string (denT (some q))) rfl
  refine bodyPost_ret (v := .agg #[.string (numT (some q)), .string (denT (some q))]) (by simp [results, Tryz.results62, go_sem, e0, e1]) rfl ⟨rfl, ?_⟩
  exact (hB.setCell (by dsimp; omega) _).setCell (by dsimp; omega) _
set_option maxRecDepth 100000 in
theorem padd_c {p q r : Rat} (hp : fitQ p) (hq : fitQ q) (ho : addQ p q = some r) (w : World) (hL : Laid w) :
    Calls Tryz.prog 61 #[.agg #[.string (numT (some p)), .string (denT (some p))], .agg #[.string (numT (some q)), .string (denT (some q))]] w (RetR w r) := by
  have C : Hid (∀ (w : World), Laid w → Calls Tryz.prog 106 #[.agg #[.string (numT (some p)), .string (denT (some p))], .agg #[.string (numT (some q)), .string (denT (some q))]] w (RetQk w (some r) 0)) := Lib.hid (fun w hL => add_r (rat_tx hp) (rat_tx hq) ho w hL)
  have K := Lib.hid (fun w => checked_ok (numT (some r)) (denT (some r)) w)
  clear hp hq ho
  have hB : Below w.heap.size w w := Below.refl _ _
  go_enter Tryz.func61, Tryz.ntmps61
  go_wp2_with (first
      | (go_at_call 106; (with_reducible refine (C.out _ (hL.below (below_up (below_up (below1 w (.cells #[.string (numT (some p)), .string (denT (some p))] 29)) (below1 ((w.alloc (.cells #[.string (numT (some p)), .string (denT (some p))] 29))) (.cells #[.string (numT (some q)), .string (denT (some q))] 29))) (below1 (((w.alloc (.cells #[.string (numT (some p)), .string (denT (some p))] 29)).alloc (.cells #[.string (numT (some q)), .string (denT (some q))] 29))) (.cells #[.string ⟨#[]⟩, .string ⟨#[]⟩] 29))))).mono ?_); rintro e w1 ⟨rfl, hb⟩; have hp := below_up (below_up (below_up (below1 w (.cells #[.string (numT (some p)), .string (denT (some p))] 29)) (below1 ((w.alloc (.cells #[.string (numT (some p)), .string (denT (some p))] 29))) (.cells #[.string (numT (some q)), .string (denT (some q))] 29))) (below1 (((w.alloc (.cells #[.string (numT (some p)), .string (denT (some p))] 29)).alloc (.cells #[.string (numT (some q)), .string (denT (some q))] 29))) (.cells #[.string ⟨#[]⟩, .string ⟨#[]⟩] 29))) hb; have Bp := (((Blk.new w 29 [.string (numT (some p)), .string (denT (some p))]).alloc _).alloc _).below hb; have Bq := ((Blk.new2 w (.cells #[.string (numT (some p)), .string (denT (some p))] 29) 29 [.string (numT (some q)), .string (denT (some q))]).alloc _).below hb; have Bz := (Blk.new3 w (.cells #[.string (numT (some p)), .string (denT (some p))] 29) (.cells #[.string (numT (some q)), .string (denT (some q))] 29) 29 [.string ⟨#[]⟩, .string ⟨#[]⟩]).below hb; replace hL := hL.below hp; replace hB := below_up hB hp; clear hb hp)
      | (go_at_call 54; (with_reducible refine (K.out _).mono ?_); rintro e w2 ⟨rfl, hb⟩; have hp := hb; replace Bp := Bp.below hp; replace Bq := Bq.below hp; replace Bz := Bz.below hp; replace hL := hL.below hp; replace hB := below_up hB hp; clear hb hp; have f0 := Bz.frozen 0; have z0 := Bz.cell 0 (v := .string ⟨#[]⟩) rfl; have f1 := Bz.frozen 1; have z1 := Bz.cell 1 (v := .string ⟨#[]⟩) rfl))
  have ZF := (Bz.set 0 (.string (numT (some r)))).set 1 (.string (denT (some r)))
  have e0 := ZF.cell 0 (v := .string (numT (some r))) rfl
  have e1 := ZF.cell 1 (v := .string (denT (some r))) rfl
  refine bodyPost_ret (v := .agg #[.string (numT (some r)), .string (denT (some r))]) (by simp [results, Tryz.results61, go_sem, e0, e1]) rfl ⟨rfl, ?_⟩
  exact (hB.setCell (by dsimp; omega) _).setCell (by dsimp; omega) _
set_option maxRecDepth 100000 in
theorem psub_c {p q r : Rat} (hp : fitQ p) (hq : fitQ q) (ho : subQ p q = some r) (w : World) (hL : Laid w) :
    Calls Tryz.prog 58 #[.agg #[.string (numT (some p)), .string (denT (some p))], .agg #[.string (numT (some q)), .string (denT (some q))]] w (RetR w r) := by
  have C : Hid (∀ (w : World), Laid w → Calls Tryz.prog 23 #[.agg #[.string (numT (some p)), .string (denT (some p))], .agg #[.string (numT (some q)), .string (denT (some q))]] w (RetQk w (some r) 0)) := Lib.hid (fun w hL => sub_r (rat_tx hp) (rat_tx hq) ho w hL)
  have K := Lib.hid (fun w => checked_ok (numT (some r)) (denT (some r)) w)
  clear hp hq ho
  have hB : Below w.heap.size w w := Below.refl _ _
  go_enter Tryz.func58, Tryz.ntmps58
  go_wp2_with (first
      | (go_at_call 23; (with_reducible refine (C.out _ (hL.below (below_up (below_up (below1 w (.cells #[.string (numT (some p)), .string (denT (some p))] 29)) (below1 ((w.alloc (.cells #[.string (numT (some p)), .string (denT (some p))] 29))) (.cells #[.string (numT (some q)), .string (denT (some q))] 29))) (below1 (((w.alloc (.cells #[.string (numT (some p)), .string (denT (some p))] 29)).alloc (.cells #[.string (numT (some q)), .string (denT (some q))] 29))) (.cells #[.string ⟨#[]⟩, .string ⟨#[]⟩] 29))))).mono ?_); rintro e w1 ⟨rfl, hb⟩; have hp := below_up (below_up (below_up (below1 w (.cells #[.string (numT (some p)), .string (denT (some p))] 29)) (below1 ((w.alloc (.cells #[.string (numT (some p)), .string (denT (some p))] 29))) (.cells #[.string (numT (some q)), .string (denT (some q))] 29))) (below1 (((w.alloc (.cells #[.string (numT (some p)), .string (denT (some p))] 29)).alloc (.cells #[.string (numT (some q)), .string (denT (some q))] 29))) (.cells #[.string ⟨#[]⟩, .string ⟨#[]⟩] 29))) hb; have Bp := (((Blk.new w 29 [.string (numT (some p)), .string (denT (some p))]).alloc _).alloc _).below hb; have Bq := ((Blk.new2 w (.cells #[.string (numT (some p)), .string (denT (some p))] 29) 29 [.string (numT (some q)), .string (denT (some q))]).alloc _).below hb; have Bz := (Blk.new3 w (.cells #[.string (numT (some p)), .string (denT (some p))] 29) (.cells #[.string (numT (some q)), .string (denT (some q))] 29) 29 [.string ⟨#[]⟩, .string ⟨#[]⟩]).below hb; replace hL := hL.below hp; replace hB := below_up hB hp; clear hb hp)
      | (go_at_call 54; (with_reducible refine (K.out _).mono ?_); rintro e w2 ⟨rfl, hb⟩; have hp := hb; replace Bp := Bp.below hp; replace Bq := Bq.below hp; replace Bz := Bz.below hp; replace hL := hL.below hp; replace hB := below_up hB hp; clear hb hp; have f0 := Bz.frozen 0; have z0 := Bz.cell 0 (v := .string ⟨#[]⟩) rfl; have f1 := Bz.frozen 1; have z1 := Bz.cell 1 (v := .string ⟨#[]⟩) rfl))
  have ZF := (Bz.set 0 (.string (numT (some r)))).set 1 (.string (denT (some r)))
  have e0 := ZF.cell 0 (v := .string (numT (some r))) rfl
  have e1 := ZF.cell 1 (v := .string (denT (some r))) rfl
  refine bodyPost_ret (v := .agg #[.string (numT (some r)), .string (denT (some r))]) (by simp [results, Tryz.results58, go_sem, e0, e1]) rfl ⟨rfl, ?_⟩
  exact (hB.setCell (by dsimp; omega) _).setCell (by dsimp; omega) _
set_option maxRecDepth 100000 in
theorem pmul_c {p q r : Rat} (hp : fitQ p) (hq : fitQ q) (ho : mulQ p q = some r) (w : World) (hL : Laid w) :
    Calls Tryz.prog 168 #[.agg #[.string (numT (some p)), .string (denT (some p))], .agg #[.string (numT (some q)), .string (denT (some q))]] w (RetR w r) := by
  have C : Hid (∀ (w : World), Laid w → Calls Tryz.prog 107 #[.agg #[.string (numT (some p)), .string (denT (some p))], .agg #[.string (numT (some q)), .string (denT (some q))]] w (RetQk w (some r) 0)) := Lib.hid (fun w hL => mul_r (rat_tx hp) (rat_tx hq) ho w hL)
  have K := Lib.hid (fun w => checked_ok (numT (some r)) (denT (some r)) w)
  clear hp hq ho
  have hB : Below w.heap.size w w := Below.refl _ _
  go_enter Tryz.func168, Tryz.ntmps168
  go_wp2_with (first
      | (go_at_call 107; (with_reducible refine (C.out _ (hL.below (below_up (below_up (below1 w (.cells #[.string (numT (some p)), .string (denT (some p))] 29)) (below1 ((w.alloc (.cells #[.string (numT (some p)), .string (denT (some p))] 29))) (.cells #[.string (numT (some q)), .string (denT (some q))] 29))) (below1 (((w.alloc (.cells #[.string (numT (some p)), .string (denT (some p))] 29)).alloc (.cells #[.string (numT (some q)), .string (denT (some q))] 29))) (.cells #[.string ⟨#[]⟩, .string ⟨#[]⟩] 29))))).mono ?_); rintro e w1 ⟨rfl, hb⟩; have hp := below_up (below_up (below_up (below1 w (.cells #[.string (numT (some p)), .string (denT (some p))] 29)) (below1 ((w.alloc (.cells #[.string (numT (some p)), .string (denT (some p))] 29))) (.cells #[.string (numT (some q)), .string (denT (some q))] 29))) (below1 (((w.alloc (.cells #[.string (numT (some p)), .string (denT (some p))] 29)).alloc (.cells #[.string (numT (some q)), .string (denT (some q))] 29))) (.cells #[.string ⟨#[]⟩, .string ⟨#[]⟩] 29))) hb; have Bp := (((Blk.new w 29 [.string (numT (some p)), .string (denT (some p))]).alloc _).alloc _).below hb; have Bq := ((Blk.new2 w (.cells #[.string (numT (some p)), .string (denT (some p))] 29) 29 [.string (numT (some q)), .string (denT (some q))]).alloc _).below hb; have Bz := (Blk.new3 w (.cells #[.string (numT (some p)), .string (denT (some p))] 29) (.cells #[.string (numT (some q)), .string (denT (some q))] 29) 29 [.string ⟨#[]⟩, .string ⟨#[]⟩]).below hb; replace hL := hL.below hp; replace hB := below_up hB hp; clear hb hp)
      | (go_at_call 54; (with_reducible refine (K.out _).mono ?_); rintro e w2 ⟨rfl, hb⟩; have hp := hb; replace Bp := Bp.below hp; replace Bq := Bq.below hp; replace Bz := Bz.below hp; replace hL := hL.below hp; replace hB := below_up hB hp; clear hb hp; have f0 := Bz.frozen 0; have z0 := Bz.cell 0 (v := .string ⟨#[]⟩) rfl; have f1 := Bz.frozen 1; have z1 := Bz.cell 1 (v := .string ⟨#[]⟩) rfl))
  have ZF := (Bz.set 0 (.string (numT (some r)))).set 1 (.string (denT (some r)))
  have e0 := ZF.cell 0 (v := .string (numT (some r))) rfl
  have e1 := ZF.cell 1 (v := .string (denT (some r))) rfl
  refine bodyPost_ret (v := .agg #[.string (numT (some r)), .string (denT (some r))]) (by simp [results, Tryz.results168, go_sem, e0, e1]) rfl ⟨rfl, ?_⟩
  exact (hB.setCell (by dsimp; omega) _).setCell (by dsimp; omega) _
set_option maxRecDepth 100000 in
theorem pdiv_c {p q r : Rat} (hp : fitQ p) (hq : fitQ q) (ho : divQ p q = some r) (w : World) (hL : Laid w) :
    Calls Tryz.prog 60 #[.agg #[.string (numT (some p)), .string (denT (some p))], .agg #[.string (numT (some q)), .string (denT (some q))]] w (RetR w r) := by
  have C : Hid (∀ (w : World), Laid w → Calls Tryz.prog 108 #[.agg #[.string (numT (some p)), .string (denT (some p))], .agg #[.string (numT (some q)), .string (denT (some q))]] w (RetQk w (some r) 0)) := Lib.hid (fun w hL => div_r (rat_tx hp) (rat_tx hq) ho w hL)
  have K := Lib.hid (fun w => checked_ok (numT (some r)) (denT (some r)) w)
  clear hp hq ho
  have hB : Below w.heap.size w w := Below.refl _ _
  go_enter Tryz.func60, Tryz.ntmps60
  go_wp2_with (first
      | (go_at_call 108; (with_reducible refine (C.out _ (hL.below (below_up (below_up (below1 w (.cells #[.string (numT (some p)), .string (denT (some p))] 29)) (below1 ((w.alloc (.cells #[.string (numT (some p)), .string (denT (some p))] 29))) (.cells #[.string (numT (some q)), .string (denT (some q))] 29))) (below1 (((w.alloc (.cells #[.string (numT (some p)), .string (denT (some p))] 29)).alloc (.cells #[.string (numT (some q)), .string (denT (some q))] 29))) (.cells #[.string ⟨#[]⟩, .string ⟨#[]⟩] 29))))).mono ?_); rintro e w1 ⟨rfl, hb⟩; have hp := below_up (below_up (below_up (below1 w (.cells #[.string (numT (some p)), .string (denT (some p))] 29)) (below1 ((w.alloc (.cells #[.string (numT (some p)), .string (denT (some p))] 29))) (.cells #[.string (numT (some q)), .string (denT (some q))] 29))) (below1 (((w.alloc (.cells #[.string (numT (some p)), .string (denT (some p))] 29)).alloc (.cells #[.string (numT (some q)), .string (denT (some q))] 29))) (.cells #[.string ⟨#[]⟩, .string ⟨#[]⟩] 29))) hb; have Bp := (((Blk.new w 29 [.string (numT (some p)), .string (denT (some p))]).alloc _).alloc _).below hb; have Bq := ((Blk.new2 w (.cells #[.string (numT (some p)), .string (denT (some p))] 29) 29 [.string (numT (some q)), .string (denT (some q))]).alloc _).below hb; have Bz := (Blk.new3 w (.cells #[.string (numT (some p)), .string (denT (some p))] 29) (.cells #[.string (numT (some q)), .string (denT (some q))] 29) 29 [.string ⟨#[]⟩, .string ⟨#[]⟩]).below hb; replace hL := hL.below hp; replace hB := below_up hB hp; clear hb hp)
      | (go_at_call 54; (with_reducible refine (K.out _).mono ?_); rintro e w2 ⟨rfl, hb⟩; have hp := hb; replace Bp := Bp.below hp; replace Bq := Bq.below hp; replace Bz := Bz.below hp; replace hL := hL.below hp; replace hB := below_up hB hp; clear hb hp; have f0 := Bz.frozen 0; have z0 := Bz.cell 0 (v := .string ⟨#[]⟩) rfl; have f1 := Bz.frozen 1; have z1 := Bz.cell 1 (v := .string ⟨#[]⟩) rfl))
  have ZF := (Bz.set 0 (.string (numT (some r)))).set 1 (.string (denT (some r)))
  have e0 := ZF.cell 0 (v := .string (numT (some r))) rfl
  have e1 := ZF.cell 1 (v := .string (denT (some r))) rfl
  refine bodyPost_ret (v := .agg #[.string (numT (some r)), .string (denT (some r))]) (by simp [results, Tryz.results60, go_sem, e0, e1]) rfl ⟨rfl, ?_⟩
  exact (hB.setCell (by dsimp; omega) _).setCell (by dsimp; omega) _
/-- The sign of a fraction. -/
def sgnQ (p : Rat) : Int := cmpO (some p) (some 0)
set_option maxRecDepth 100000 in
theorem sign_any {p : Rat} (hp : fitQ p) (w : World) (hL : Laid w) : Calls Tryz.prog 142 #[.agg #[.string (numT (some p)), .string (denT (some p))]] w (RetI w (sgnQ p)) := by
  have C := Lib.hid (fun w hL => cmp_r (rat_tx hp) (rat_tx fit_zero) (c := sgnQ p) rfl w hL)
  have K : Hid (∀ (w : World), Laid w → Calls Tryz.prog 62 #[.int .i64 0] w (RetR w 0)) := Lib.hid (fun w hL => whole_any 0 (by decide) (by decide) w hL)
  have hB : Below w.heap.size w w := Below.refl _ _
  have hmixed : Tryz.prog.follows .mixedOrders = true := by kernel_rfl
  generalize sgnQ p = c at *
  clear hp
  go_enter Tryz.func142, Tryz.ntmps142
  go_wp2_with fail
  have hZ := (below1 w (.cells #[.string (numT (some p)), .string (denT (some p))] 29)).drew
  have Bp := (Blk.new w 29 [.string (numT (some p)), .string (denT (some p))]).below (Below.refl (w.alloc (.cells #[.string (numT (some p)), .string (denT (some p))] 29)).heap.size (w.alloc (.cells #[.string (numT (some p)), .string (denT (some p))] 29))).drew
  have cp_0 := Bp.cell 0 (v := .string (numT (some p))) rfl
  have cp_1 := Bp.cell 1 (v := .string (denT (some p))) rfl
  go_region_held3 (fun w' => w'.cell? ⟨w.heap.size, 0, none⟩ = some (.string (numT (some p))) ∧ w'.cell? ⟨w.heap.size, 1, none⟩ = some (.string (denT (some p)))) (go_keep) (first
      | (go_at_call 62; (with_reducible refine (K.out _ (hL.below hZ)).mono ?_); rintro e wN ⟨rfl, hb⟩; have hZ := below_up hZ hb; have Bp := Bp.below hb; have cp_0 := Bp.cell 0 (v := .string (numT (some p))) rfl; have cp_1 := Bp.cell 1 (v := .string (denT (some p))) rfl)
      | (go_at_call 17; (with_reducible refine (C.out _ (hL.below hZ)).mono ?_); rintro e wN ⟨rfl, hb⟩; have hZ := below_up hZ hb; have Bp := Bp.below hb; have cp_0 := Bp.cell 0 (v := .string (numT (some p))) rfl; have cp_1 := Bp.cell 1 (v := .string (denT (some p))) rfl))
  all_goals (replace hL := hL.below hZ; replace hB := below_up hB hZ; clear hZ)
  all_goals go_wp2
  all_goals go_ret
  all_goals exact ⟨rfl, hB⟩

end Go.Proofs.YtffndcjmabjhiaaGreatDoor

namespace Go.Proofs.YtffndcjmabjhiaaGreatDoor
open Go.RowKit Num
open Go.Shelf

theorem fit_ok {p : Rat} (hp : fitQ p) : okR (numT (some p)) (denT (some p)) = true := Fr.ok (x := numT (some p)) (y := denT (some p)) (fr_fit hp)
set_option maxRecDepth 100000 in
theorem valid1_any {p : Rat} (hp : fitQ p) (w : World) (hL : Laid w) : Calls Tryz.prog 141 #[.agg #[.string (numT (some p)), .string (denT (some p))]] w (RetB w false) := by
  have C : Hid (∀ (w : World), Laid w → Calls Tryz.prog 63 #[.agg #[.string (numT (some p)), .string (denT (some p))]] w (RetB w true)) := Lib.hid (fun w hL => by
    have := qvalid_any (numT (some p)) (denT (some p)) w hL
    rwa [fit_ok hp] at this)
  have hB : Below w.heap.size w w := Below.refl _ _
  clear hp
  go_enter Tryz.func141, Tryz.ntmps141
  go_wp2_with (go_at_call 63; (with_reducible refine (C.out _ (hL.below (below1 _ _))).mono ?_); rintro e w1 ⟨rfl, hb⟩; replace hB := below_up (below1 _ _) hb)
  go_ret
  exact ⟨rfl, hB⟩

set_option maxHeartbeats 1000000 in
set_option maxRecDepth 100000 in
theorem indexf_any {v : Value} {l : List Rat} (w : World) (hv : Pv w v l) (hL : Laid w) : Calls Tryz.prog 222 #[v, .func (.func 141) #[] #[]] w (RetI w (-1)) := by
  have HF := Lib.hid hv.fit
  obtain ⟨A, c, rfl, hc, hm, hx⟩ := hv
  have HX := Lib.hid hx
  have hm1 := hm.1
  clear hx hm
  have hB : Below w.heap.size w w := Below.refl _ _
  go_enter Tryz.func222, Tryz.ntmps222
  go_wp2
  go_loopg [8] l.length (fun k s8 wr => ∃ i : Nat, s8 = .int .i64 i ∧ i ≤ l.length ∧ l.length ≤ k + i ∧ Laid wr ∧ Below w.heap.size w wr)
  case atStart => exact ⟨0, rfl, by omega, by omega, hL, hB⟩
  case round =>
    clear hL hB
    obtain ⟨i, rfl, hi, hk, hL, hB⟩ := hrel
    by_cases hg : i < l.length
    · have hgi : (i : Int) < l.length := by omega
      obtain ⟨b, o, rfl, hx⟩ := HX.out (by omega)
      have c0 := (hB.cell (cell_lt (hx i hg).1)).trans (hx i hg).1
      have c1 := (hB.cell (cell_lt (hx i hg).2)).trans (hx i hg).2
      have C := Lib.hid (fun w hL => valid1_any (HF.out i) w hL)
      generalize cf l i = p at *
      go_wp2_with (go_at_call 141; (with_reducible refine (C.out _ hL).mono ?_); rintro e w1 ⟨rfl, hb⟩; replace hL := hL.below hb; replace hB := below_up hB hb)
      all_goals go_roundg (l.length - (i + 1))
      all_goals first | omega | exact ⟨i + 1, by go_num, by omega, by omega, hL, hB⟩
    · obtain rfl : i = l.length := by omega
      go_wp2
      go_ret
      exact ⟨rfl, hB⟩

set_option maxRecDepth 100000 in
theorem contf_any {v : Value} {l : List Rat} (w : World) (hv : Pv w v l) (hL : Laid w) : Calls Tryz.prog 140 #[v, .func (.func 141) #[] #[]] w (RetB w false) := by
  have C := Lib.hid (indexf_any w hv hL)
  clear hv hL
  go_enter Tryz.func140, Tryz.ntmps140
  go_wp2_with (go_at_call 222; (with_reducible refine (C.out).mono ?_); rintro e w1 ⟨rfl, hb⟩)
  go_ret
  exact ⟨rfl, hb⟩

theorem sgn_zero {p : Rat} : sgnQ p = 0 ↔ p = 0 := by
  unfold sgnQ
  rw [cmpO_some]
  constructor
  · intro h
    by_cases h1 : p < 0
    · rw [if_pos h1] at h; omega
    · by_cases h2 : 0 < p
      · rw [if_neg h1, if_pos h2] at h; omega
      · exact Rat.le_antisymm (Rat.not_lt.1 h2) (Rat.not_lt.1 h1)
  · intro h; subst h; rfl
/-- Whether a list of valid fractions has no zero at its end. -/
def ntB (l : List Rat) : Bool := decide (l.length = 0) || decide (cf l (l.length - 1) ≠ 0)
theorem ntB_true {l : List Rat} (h : NT l) : ntB l = true := by
  unfold ntB
  rcases h with h | h
  · subst h; rfl
  · simp [h]
set_option maxHeartbeats 1000000 in
set_option maxRecDepth 100000 in
theorem pvalid_any {v : Value} {l : List Rat} (w : World) (hv : Pv w v l) (hn : l.length ≤ 13) (hL : Laid w) : Calls Tryz.prog 43 #[v] w (RetB w (ntB l)) := by
  have C := Lib.hid (fun w hv hL => contf_any (v := v) (l := l) w hv hL)
  have HF := Lib.hid hv.fit
  have HV := Lib.hid hv
  have hB : Below w.heap.size w w := Below.refl _ _
  obtain ⟨A, c, rfl, hc, hm, hx⟩ := hv
  have hr : ntB l = (decide (l.length = 0) || decide (cf l (l.length - 1) ≠ 0)) := rfl
  rw [hr]
  clear hr
  generalize hlen : l.length = n at *
  have hn13 : ¬ (n : Int) > 13 := by omega
  by_cases h0 : n = 0
  · subst h0
    go_enter Tryz.func43, Tryz.ntmps43
    go_wp2_with (go_at_call 140; (with_reducible refine (C.out _ HV.out hL).mono ?_); rintro e w1 ⟨rfl, hb⟩)
    go_ret
    exact ⟨rfl, hb⟩
  · obtain ⟨b, o, rfl, hx'⟩ := hx (by omega)
    clear hx
    have hx := hx'
    obtain ⟨j, rfl⟩ : ∃ j, n = j + 1 := ⟨n - 1, by omega⟩
    rw [show decide (j + 1 = 0) = false from rfl, Bool.false_or, show j + 1 - 1 = j from rfl]
    have hw : IntKind.i64.wrap ((j : Int) + 1 - 1) = j := by rw [IntWalk.i64_in _ (by omega)]; omega
    have hlt : (j : Int) < (j : Int) + 1 := by omega
    have hj0 : ((j : Int) + 1 == 0) = false := beq_eq_false_iff_ne.2 (by omega)
    have S := Lib.hid (fun w hL => sign_any (HF.out j) w hL)
    have hz := @sgn_zero (cf l j)
    have k0 := (hx j (by omega)).1
    have k1 := (hx j (by omega)).2
    clear hx hx' HF
    generalize cf l j = p at *
    generalize hq : sgnQ p = q at *
    clear hq
    by_cases hp0 : p = 0
    · rw [decide_eq_false (fun h => h hp0)]
      obtain rfl : q = 0 := hz.2 hp0
      clear hz hp0
      go_enter Tryz.func43, Tryz.ntmps43
      go_wp2_with (first
        | (go_at_call 140; (with_reducible refine (C.out _ HV.out hL).mono ?_); rintro e w1 ⟨rfl, hb⟩; replace hL := hL.below hb; replace k0 := (hb.cell (cell_lt k0)).trans k0; replace k1 := (hb.cell (cell_lt k1)).trans k1; replace hB := hb; clear hb)
        | (go_at_call 142; (with_reducible refine (S.out _ hL).mono ?_); rintro e w2 ⟨rfl, hb⟩; replace hB := below_up hB hb))
      go_ret
      exact ⟨rfl, hB⟩
    · rw [decide_eq_true hp0]
      have hq0 : (q == 0) = false := beq_eq_false_iff_ne.2 (fun h => hp0 (hz.1 h))
      have hq1 : (q != 0) = true := by simp only [bne, hq0]; rfl
      clear hz hp0
      go_enter Tryz.func43, Tryz.ntmps43
      go_wp2_with (first
        | (go_at_call 140; (with_reducible refine (C.out _ HV.out hL).mono ?_); rintro e w1 ⟨rfl, hb⟩; replace hL := hL.below hb; replace k0 := (hb.cell (cell_lt k0)).trans k0; replace k1 := (hb.cell (cell_lt k1)).trans k1; replace hB := hb; clear hb)
        | (go_at_call 142; (with_reducible refine (S.out _ hL).mono ?_); rintro e w2 ⟨rfl, hb⟩; replace hB := below_up hB hb))
      go_ret
      exact ⟨rfl, hB⟩

/-- The leading coefficient. -/
theorem lead_any {v : Value} {l : List Rat} (w : World) (hv : Pv w v l) (h0 : 0 < l.length) : Calls Tryz.prog 171 #[v] w (RetR w (cf l (l.length - 1))) := by
  obtain ⟨A, c, rfl, hc, hm, hx⟩ := hv
  obtain ⟨b, o, rfl, hy⟩ := hx h0
  have k := hy (l.length - 1) (by omega)
  clear hx
  generalize hlen : l.length = n at *
  obtain ⟨j, rfl⟩ : ∃ j, n = j + 1 := ⟨n - 1, by omega⟩
  rw [show j + 1 - 1 = j from rfl] at *
  have hw : IntKind.i64.wrap ((j : Int) + 1 - 1) = j := by rw [IntWalk.i64_in _ (by omega)]; omega
  have hlt : (j : Int) < (j : Int) + 1 := by omega
  obtain ⟨k0, k1⟩ := k
  generalize cf l j = p at *
  clear hy
  have hbw : b < w.heap.size := cell_lt k0
  have c0 := (below1 w (.cells #[.string ⟨#[]⟩, .string ⟨#[]⟩] 29)).cell (cell_lt k0) |>.trans k0
  have c1 := (below1 w (.cells #[.string ⟨#[]⟩, .string ⟨#[]⟩] 29)).cell (cell_lt k1) |>.trans k1
  go_enter Tryz.func171, Tryz.ntmps171
  go_wp2
  refine bodyPost_ret (v := .agg #[.string (numT (some p)), .string (denT (some p))]) (by simp [results, Tryz.results171, go_sem]) rfl ⟨rfl, ?_⟩
  exact below1 _ _

/-- The coefficient with an index, 0 if there is none. -/
theorem atc_any {v : Value} {l : List Rat} (w : World) (hv : Pv w v l) (i : Nat) (hL : Laid w) : Calls Tryz.prog 286 #[v, .int .i64 i] w (RetR w (cf l i)) := by
  obtain ⟨A, c, rfl, hc, hm, hx⟩ := hv
  by_cases hg : i < l.length
  · obtain ⟨b, o, rfl, hy⟩ := hx (by omega)
    have hgi : (i : Int) < l.length := by omega
    have k0 := (hy i hg).1
    have k1 := (hy i hg).2
    have hbw : b < w.heap.size := cell_lt k0
    have c0 := (below1 w (.cells #[.string ⟨#[]⟩, .string ⟨#[]⟩] 29)).cell (cell_lt k0) |>.trans k0
    have c1 := (below1 w (.cells #[.string ⟨#[]⟩, .string ⟨#[]⟩] 29)).cell (cell_lt k1) |>.trans k1
    clear hx hy
    generalize cf l i = p at *
    go_enter Tryz.func286, Tryz.ntmps286
    go_wp2
    refine bodyPost_ret (v := .agg #[.string (numT (some p)), .string (denT (some p))]) (by simp [results, Tryz.results286, go_sem]) rfl ⟨rfl, ?_⟩
    exact below1 _ _
  · have hgi : ¬ (i : Int) < l.length := by omega
    rw [cf_past (by omega)]
    have K : Hid (∀ (w : World), Laid w → Calls Tryz.prog 62 #[.int .i64 0] w (RetR w 0)) := Lib.hid (fun w hL => whole_any 0 (by decide) (by decide) w hL)
    clear hx
    go_enter Tryz.func286, Tryz.ntmps286
    go_wp2_with (go_at_call 62; (with_reducible refine (K.out _ (hL.below (below1 w (.cells #[.string ⟨#[]⟩, .string ⟨#[]⟩] 29)))).mono ?_); rintro e w1 ⟨rfl, hb⟩; have Bz := (Blk.new w 29 [.string ⟨#[]⟩, .string ⟨#[]⟩]).below hb; have hB := below_up (below1 w (.cells #[.string ⟨#[]⟩, .string ⟨#[]⟩] 29)) hb; have f0 := Bz.frozen 0; have f1 := Bz.frozen 1; have z0 := Bz.cell 0 (v := .string ⟨#[]⟩) rfl; have z1 := Bz.cell 1 (v := .string ⟨#[]⟩) rfl)
    have ZF := (Bz.set 0 (.string (numT (some 0)))).set 1 (.string (denT (some 0)))
    have e0 := ZF.cell 0 (v := .string (numT (some 0))) rfl
    have e1 := ZF.cell 1 (v := .string (denT (some 0))) rfl
    refine bodyPost_ret (v := .agg #[.string (numT (some 0)), .string (denT (some 0))]) (by simp [results, Tryz.results286, go_sem, e0, e1]) rfl ⟨rfl, ?_⟩
    exact (hB.setCell (p := ⟨w.heap.size, 0, none⟩) (Nat.le_refl _) _).setCell (p := ⟨w.heap.size, 1, none⟩) (Nat.le_refl _) _

theorem trim_take_zero {l : List Rat} {n : Nat} (hn : n + 1 ≤ l.length) (h0 : cf l n = 0) : trimP (l.take (n + 1)) = trimP (l.take n) := by
  have e : l.take (n + 1) = l.take n ++ [cf l n] := by
    rw [cf_at (by omega), List.take_add_one, List.getElem?_eq_getElem (by omega)]; rfl
  rw [e, h0, trim_snoc0]
theorem trim_take_lead {l : List Rat} {n : Nat} (hn : n + 1 ≤ l.length) (h0 : cf l n ≠ 0) : trimP (l.take (n + 1)) = l.take (n + 1) := by
  have e : l.take (n + 1) = l.take n ++ [cf l n] := by
    rw [cf_at (by omega), List.take_add_one, List.getElem?_eq_getElem (by omega)]; rfl
  rw [e, trim_snoc _ h0]
/-- The call cuts zeros off: the same cells, a shorter slice. -/
def RetTr (w : World) (A : Option Addr) (l : List Rat) (e : Ending) (w' : World) : Prop := e = .returned (.slice A (trimP l).length (trimP l).length) ∧ l.take (trimP l).length = trimP l ∧ Below w.heap.size w w'
set_option maxHeartbeats 1000000 in
set_option maxRecDepth 100000 in
theorem ptrimmed_any {A : Option Addr} {c : Nat} {l : List Rat} (w : World) (hv : Pv w (.slice A l.length c) l) (hn : l.length ≤ 13) (hL : Laid w) : Calls Tryz.prog 172 #[.slice A l.length c] w (RetTr w A l) := by
  have HF := Lib.hid hv.fit
  have M := Lib.hid (fun w => must_true w)
  obtain ⟨A', c', hv, hc, hm, hx⟩ := hv
  obtain ⟨rfl, rfl⟩ : A = A' ∧ c = c' := by simp at hv; exact hv
  have HX := Lib.hid hx
  have hc1 := hc.1
  have HA := Lib.hid hc.2
  clear hx hv hc hm
  have hB : Below w.heap.size w w := Below.refl _ _
  go_enter Tryz.func172, Tryz.ntmps172
  go_wp2
  go_loopg [3] l.length (fun k s3 wr => ∃ n : Nat, s3 = .int .i64 n ∧ n ≤ l.length ∧ n ≤ k ∧ trimP (l.take n) = trimP l ∧ Laid wr ∧ Below w.heap.size w wr)
  case atStart => exact ⟨l.length, rfl, by omega, by omega, by rw [List.take_length], hL, hB⟩
  case round =>
    clear hL hB
    obtain ⟨n, rfl, hi, hk, ht, hL, hB⟩ := hrel
    have hT := Lib.hid ht
    clear ht
    have hn13 : (n : Int) ≤ 13 := by omega
    have hnl : (n : Int) ≤ l.length := by omega
    have hnc : (n : Int) ≤ c := by omega
    have hfin : ∀ (h : trimP (l.take n) = l.take n), (trimP l).length = n ∧ l.take n = trimP l := fun h => by
      have h2 := hT.out
      rw [h] at h2
      have h3 : (l.take n).length = n := by rw [List.length_take]; omega
      rw [← h2]; exact ⟨h3, rfl⟩
    cases A with
    | none =>
      obtain rfl := HA.out rfl
      obtain rfl : n = 0 := by omega
      obtain ⟨e1, e2⟩ := hfin rfl
      go_wp2_with (go_at_call 53; refine (M.out _).mono ?_; rintro e w' ⟨rfl, rfl⟩)
      go_ret
      exact ⟨by rw [e1]; rfl, by rw [e1]; exact e2, hB⟩
    | some a =>
      cases n with
      | zero =>
        obtain ⟨e1, e2⟩ := hfin rfl
        go_wp2_with (go_at_call 53; refine (M.out _).mono ?_; rintro e w' ⟨rfl, rfl⟩)
        go_ret
        exact ⟨by rw [e1]; rfl, by rw [e1]; exact e2, hB⟩
      | succ j =>
        obtain ⟨b, o, ea, hy⟩ := HX.out (by omega)
        obtain rfl : a = ⟨b, o, none⟩ := Option.some.inj ea
        have hw : IntKind.i64.wrap ((j : Int) + 1 - 1) = j := by rw [IntWalk.i64_in _ (by omega)]; omega
        have hlt : (j : Int) < l.length := by omega
        have hn13' : (j : Int) + 1 ≤ 13 := by omega
        have hnc' : (j : Int) + 1 ≤ c := by omega
        have k0 := (hB.cell (cell_lt (hy j (by omega)).1)).trans (hy j (by omega)).1
        have k1 := (hB.cell (cell_lt (hy j (by omega)).2)).trans (hy j (by omega)).2
        have S := Lib.hid (fun w hL => sign_any (HF.out j) w hL)
        have hz := @sgn_zero (cf l j)
        by_cases hp0 : cf l j = 0
        · have hq0 := hz.2 hp0
          have hT2 := Lib.hid ((trim_take_zero (l := l) (n := j) (by omega) hp0).symm.trans hT.out)
          rw [hq0] at S
          clear hz hp0 hq0 hy hfin hT
          generalize cf l j = p at *
          go_wp2_with (go_at_call 142; (with_reducible refine (S.out _ hL).mono ?_); rintro e w2 ⟨rfl, hb⟩; replace hL := hL.below hb; replace hB := below_up hB hb)
          go_roundg j
          all_goals first | omega | exact ⟨j, by go_num, by omega, by omega, hT2.out, hL, hB⟩
        · obtain ⟨e1, e2⟩ := hfin (trim_take_lead (l := l) (n := j) (by omega) hp0)
          have hq0 : (sgnQ (cf l j) == 0) = false := beq_eq_false_iff_ne.2 (fun h => hp0 (hz.1 h))
          clear hz hp0 hy hfin hT
          generalize cf l j = p at *
          generalize sgnQ p = q at *
          go_wp2_with (first
            | (go_at_call 142; (with_reducible refine (S.out _ hL).mono ?_); rintro e w2 ⟨rfl, hb⟩; replace hL := hL.below hb; replace hB := below_up hB hb)
            | (go_at_call 53; refine (M.out _).mono ?_; rintro e w' ⟨rfl, rfl⟩))
          go_ret
          exact ⟨by rw [e1]; rfl, by rw [e1]; exact e2, hB⟩

end Go.Proofs.YtffndcjmabjhiaaGreatDoor
