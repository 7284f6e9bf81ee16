/- Rows of fractions of a call's own: made, appended to, written. Conditions: none. Sums, differences and quotients by a number, of polynomials. Conditions: the tables of strconv; no operation fails. Polynomials divided by a fraction; made monic. Conditions: the tables of strconv; no operation fails. slices.Repeat of a zero, and copy at structs of two cells. Condition: the tables of strconv (none is read). -/
import Derived.Test.YtffndcjmabjhiaaGreatDoorM1
import Derived.Test.YtffndcjmabjhiaaGreatDoorK12
import Derived.Test.YtffndcjmabjhiaaGreatDoorShelf
import Derived.Laws.CopyRow
import Derived.Laws.CopyOwn
import Derived.Shelf.Spec.SlicesInsert
import Derived.Deep.RegionLaw
namespace Go.Proofs.YtffndcjmabjhiaaGreatDoor
open Go.RowKit Num
open Go.Shelf

theorem Tryz.infoR : (Tryz.prog.info? 29).map (fun i => (i.zero, i.size, i.bytes)) = some (some (.agg #[.string ⟨#[]⟩, .string ⟨#[]⟩]), 2, 32) := by kernel_rfl
/-- A row of the call's own that holds fractions. -/
def RowR (w : World) (B : Nat) (v : Value) (l : List Rat) : Prop := w.ownsRow B 29 2 v l.length (flat l)
theorem RowR.nil (w : World) (B : Nat) : RowR w B (.slice none 0 0) [] := World.ownsRow_nil _ _ _ _
theorem RowR.below {w w' : World} {B : Nat} {v : Value} {l : List Rat} (h : RowR w B v l) (hb : Below w.heap.size w w') : RowR w' B v l :=
  World.ownsRow.kept (row := none) h ⟨hb.os, hb.tape, hb.output, hb.size, fun j hj _ => hb.block j hj⟩ (by cases hv : v.ownBlock <;> simp)
theorem RowR.pv {w : World} {B : Nat} {v : Value} {l : List Rat} (h : RowR w B v l) (hm : l.length ≤ 1000) (hf : ∀ i, fitQ (cf l i)) : Pv w v l := by
  obtain ⟨h1, h2⟩ := h
  rcases h2 with ⟨rfl, hn⟩ | ⟨g, cap, cur, rfl, hg, hh, hl, hc, hcap, h3⟩
  · have : l = [] := List.eq_nil_of_length_eq_zero hn
    subst this
    exact Pv.nil w
  · have h' : w.ownsRow B 29 2 (.slice (some ⟨g, 0, none⟩) l.length cap) l.length (flat l) := ⟨h1, .inr ⟨g, cap, cur, rfl, hg, hh, hl, hc, hcap, h3⟩⟩
    refine ⟨_, cap, rfl, ⟨hl, fun e => by cases e⟩, ⟨hm, hf⟩, fun _ => ⟨g, 0, rfl, fun j hj => ?_⟩⟩
    have := flat_get l j hj
    rw [Nat.zero_add, h'.cellAt (j * 2) (by omega), h'.cellAt (j * 2 + 1) (by omega)]
    exact this
theorem rat_new (w : World) (x y : ByteArray) (T : TypeId) (j : Nat) (u : Value) (h : ([.string x, .string y] : List Value)[j]? = some u) : (w.alloc (.cells #[.string x, .string y] T)).cell? ((⟨w.heap.size, 0, none⟩ : Addr).add j) = some u := by
  have e : (⟨w.heap.size, 0, none⟩ : Addr).add j = ⟨w.heap.size, j, none⟩ := by simp [Addr.add]; omega
  rw [e]
  exact (Blk.new w T [.string x, .string y]).cell j h
/-- A row of fractions, appended to by one of a new block. -/
theorem app_rat {w : World} {ops : Array Oper} {rest : List Oper} {o : Oper} {a : Act} {Q : Exit → Act → World → Prop} (hgd : o.guard = none) (s x : Operand) {t : TypeId} (ht : Tryz.prog.underlying t = some (.slice 29))
    (ho : o.op = .call { callee := .builtin .append, args := #[s, x], argTypes := #[t, t] }) (B : Nat) (v : Value) (l : List Rat) (q : Rat) (hs : a.eval s = v)
    (hown : RowR w B v l) (hx : a.eval x = .slice (some ⟨w.heap.size, 0, none⟩) 1 1) (hl : l.length ≤ 1000) (hB : B ≤ w.heap.size)
    (h : ∀ v' w', RowR w' B v' (l ++ [q]) → (∀ b W, Below b W w → b ≤ B → Below b W w') → wpList Tryz.prog ops Q rest (a.put o.dst v') w') :
    wpList Tryz.prog ops Q (o :: rest) a (w.alloc (.cells #[.string (numT (some q)), .string (denT (some q))] 29)) := by
  obtain ⟨i0, hi, hz0, hz1, hz2⟩ := info_parts Tryz.infoR
  refine wpList_append_own _ hgd s x t ho B 29 i0 (.agg #[.string ⟨#[]⟩, .string ⟨#[]⟩]) 2 32 ht hi hz0 hz1 hz2 rfl (by decide) v l.length _ hs (World.ownsRow.alloc hown _) ⟨w.heap.size, 0, none⟩ 1 1 [.string (numT (some q)), .string (denT (some q))] hx rfl (fun j u hu => rat_new _ _ _ _ j u hu) ?_ ?_ ?_ ?_ ?_
  · intro u hu; simp at hu; rcases hu with rfl | rfl <;> rfl
  · unfold maxLen; omega
  · omega
  · simp; omega
  · intro v' w' hown' hg _
    refine h v' w' ?_ (fun b W hb hbB => ?_)
    · unfold RowR
      rw [List.length_append, flat_append]
      exact hown'
    · exact (hb.alloc (by omega) _).grown hg (by simp; omega) (fun k hk => by have := (World.ownsRow.lt hown k hk).1; omega)

/-- A block whose first cells are fractions. -/
def PB (w : World) (g : Nat) (l : List Rat) (rest : List Value) : Prop := Blk w g 29 (flat l ++ rest)
theorem PB.cell {w : World} {g : Nat} {l : List Rat} {rest : List Value} (h : PB w g l rest) (j : Nat) (hj : j < l.length) : w.cell? ⟨g, j * 2, none⟩ = some (.string (numT (some (cf l j)))) ∧ w.cell? ⟨g, j * 2 + 1, none⟩ = some (.string (denT (some (cf l j)))) := by
  have := flat_get l j hj
  have hl := flat_len l
  exact ⟨Blk.cell h _ (by rw [List.getElem?_append_left (by omega)]; exact this.1), Blk.cell h _ (by rw [List.getElem?_append_left (by omega)]; exact this.2)⟩
theorem PB.below {w w' : World} {g : Nat} {l : List Rat} {rest : List Value} (h : PB w g l rest) (hb : Below w.heap.size w w') : PB w' g l rest := Blk.below h hb
theorem PB.set {w : World} {g : Nat} {l : List Rat} {rest : List Value} (h : PB w g l rest) (j : Nat) (hj : j < l.length) (q : Rat) :
    PB ((w.setCell ⟨g, j * 2, none⟩ (.string (numT (some q)))).setCell ⟨g, j * 2 + 1, none⟩ (.string (denT (some q)))) g (l.set j q) rest := by
  have hl := flat_len l
  have := (Blk.set h (j * 2) (.string (numT (some q)))).set (j * 2 + 1) (.string (denT (some q)))
  unfold PB
  rw [← flat_set]
  rwa [List.set_append_left _ _ (by omega), List.set_append_left _ _ (by rw [List.length_set]; omega)] at this
theorem PB.fill {w : World} {g : Nat} {l : List Rat} {a b : Value} {rest : List Value} (h : PB w g l (a :: b :: rest)) (q : Rat) :
    PB ((w.setCell ⟨g, l.length * 2, none⟩ (.string (numT (some q)))).setCell ⟨g, l.length * 2 + 1, none⟩ (.string (denT (some q)))) g (l ++ [q]) rest := by
  have hl := flat_len l
  have := (Blk.set h (l.length * 2) (.string (numT (some q)))).set (l.length * 2 + 1) (.string (denT (some q)))
  unfold PB
  rw [flat_append]
  rw [List.set_append_right _ _ (by omega), List.set_append_right _ _ (by omega), show l.length * 2 - (flat l).length = 0 by omega, show l.length * 2 + 1 - (flat l).length = 1 by omega] at this
  rw [List.append_assoc]
  exact this
theorem PB.pv {w : World} {g : Nat} {l : List Rat} {rest : List Value} (h : PB w g l rest) (n c : Nat) (hn : n ≤ l.length) (hc : n ≤ c) (hm : l.length ≤ 1000) (hf : ∀ i, fitQ (cf l i)) : Pv w (.slice (some ⟨g, 0, none⟩) n c) (l.take n) := by
  have hl : (l.take n).length = n := by rw [List.length_take]; omega
  have hcf : ∀ i, cf (l.take n) i = if i < n then cf l i else 0 := fun i => by
    unfold cf
    rw [List.getD_eq_getElem?_getD, List.getD_eq_getElem?_getD]
    by_cases h : i < n
    · rw [List.getElem?_take_of_lt h, if_pos h]
    · rw [if_neg h, List.getElem?_eq_none (by rw [hl]; omega)]; rfl
  refine ⟨some ⟨g, 0, none⟩, c, by rw [hl], ⟨by omega, fun e => by cases e⟩, ⟨by omega, fun i => ?_⟩, fun _ => ⟨g, 0, rfl, fun j hj => ?_⟩⟩
  · rw [hcf]; split
    · exact hf i
    · exact fit_zero
  · rw [hcf, if_pos (by omega), Nat.zero_add]
    exact h.cell j (by omega)
theorem PB.pvAll {w : World} {g : Nat} {l : List Rat} {rest : List Value} (h : PB w g l rest) (c : Nat) (hc : l.length ≤ c) (hm : l.length ≤ 1000) (hf : ∀ i, fitQ (cf l i)) : Pv w (.slice (some ⟨g, 0, none⟩) l.length c) l := by
  have := h.pv l.length c (Nat.le_refl _) hc hm hf
  rwa [List.take_length] at this
/-- The cells of n fractions that nothing has been put into. -/
def emp : Nat → List Value
  | 0 => []
  | n + 1 => .string ⟨#[]⟩ :: .string ⟨#[]⟩ :: emp n
theorem emp_len (n : Nat) : (emp n).length = n * 2 := by
  induction n with
  | zero => rfl
  | succ n ih => show (emp n).length + 1 + 1 = _; rw [ih]; omega
theorem emp_rep (n : Nat) : emp n = List.replicate (n * 2) (.string ⟨#[]⟩) := by
  induction n with
  | zero => rfl
  | succ n ih => rw [show (n + 1) * 2 = n * 2 + 1 + 1 by omega, List.replicate_succ, List.replicate_succ, ← ih]; rfl
theorem emp_made (n : Nat) : (madeCells (Value.agg #[.string ⟨#[]⟩, .string ⟨#[]⟩]).cells (n * 2)).toList = emp n := by
  have hc : (Value.agg #[.string ⟨#[]⟩, .string ⟨#[]⟩]).cells = #[.string ⟨#[]⟩, .string ⟨#[]⟩] := rfl
  rw [hc, emp_rep]
  apply List.ext_getElem?
  intro j
  by_cases hj : j < n * 2
  · have h2 : j % 2 = 0 ∨ j % 2 = 1 := by omega
    rcases h2 with h2 | h2 <;> simp [madeCells, hj, h2]
  · simp [madeCells, hj]
/-- 'make([]api.Ratio, n)'. -/
theorem make_rat {w : World} {ops : Array Oper} {rest : List Oper} {o : Oper} {a : Act} {Q : Exit → Act → World → Prop} (hg : o.guard = none) (l c : Operand) {t : TypeId} (ht : Tryz.prog.underlying t = some (.slice 29))
    (hop : o.op = Op.makeSlice t l c) (L : Nat) (z : Int) (hz : z = L) (hl : a.eval l = .int .i64 z) (hc : a.eval c = .int .i64 z) (hL : L ≤ 1000)
    (hK : ∀ w', PB w' w.heap.size [] (emp L) → Below w.heap.size w w' → wpList Tryz.prog ops Q rest (a.put o.dst (.slice (some ⟨w.heap.size, 0, none⟩) L L)) w') :
    wpList Tryz.prog ops Q (o :: rest) a w := by
  subst hz
  obtain ⟨i0, hi, hz0, hz1, hz2⟩ := info_parts Tryz.infoR
  refine wpList_plain hg fun K hK' => ?_
  obtain ⟨w', hrun, r1, r2⟩ := run_make_full (P := Tryz.prog) w w.heap.size t 29 i0 (.agg #[.string ⟨#[]⟩, .string ⟨#[]⟩]) 2 ht hi hz0 hz1 .i64 .i64 L (by rw [hz2]; omega) (by unfold maxLen; omega) (Nat.le_refl _)
  unfold Oper.wp
  simp [execOp, hop, hl, hc, hrun, Result.andThen]
  refine hK' _ _ (hK w' ?_ ((Below.refl _ _).grown r2 (Nat.le_refl _) (fun k e => by cases e)))
  rw [emp_made] at r1
  obtain ⟨h1, h2⟩ := r1
  rcases h2 with ⟨e, _⟩ | ⟨g, cap, cur, e, hg, hh, hl, hc, hcap, h3⟩
  · cases e
  · cases e
    have : cur = (emp L).toArray := by
      apply Array.ext'
      rw [← h3, List.take_of_length_le (by rw [Array.length_toList]; omega)]
    subst this
    exact hh

end Go.Proofs.YtffndcjmabjhiaaGreatDoor

namespace Go.Proofs.YtffndcjmabjhiaaGreatDoor
open Go.RowKit Num
open Go.Shelf

theorem PB.hole {w : World} {g : Nat} {l : List Rat} {a b : Value} {rest : List Value} (h : PB w g l (a :: b :: rest)) : w.cell? ⟨g, l.length * 2, none⟩ = some a ∧ w.cell? ⟨g, l.length * 2 + 1, none⟩ = some b := by
  have hl := flat_len l
  refine ⟨Blk.cell h _ ?_, Blk.cell h _ ?_⟩
  · rw [List.getElem?_append_right (by omega), show l.length * 2 - (flat l).length = 0 by omega]; rfl
  · rw [List.getElem?_append_right (by omega), show l.length * 2 + 1 - (flat l).length = 1 by omega]; rfl
theorem take_more {l : List Rat} {i : Nat} (h : i < l.length) : l.take i ++ [cf l i] = l.take (i + 1) := by
  rw [cf_at h, List.take_add_one, List.getElem?_eq_getElem h]; rfl
theorem emp_more {n i : Nat} (h : i < n) : emp (n - i) = .string ⟨#[]⟩ :: .string ⟨#[]⟩ :: emp (n - (i + 1)) := by
  rw [show n - i = n - (i + 1) + 1 by omega]; rfl
/-- The element behind those that are there is put into a row. -/
theorem PB.put {w : World} {g n i : Nat} {l : List Rat} (h : PB w g (l.take i) (emp (n - i))) (hi : i < n) (hl : l.length = n) :
    (w.cell? ⟨g, i * 2, none⟩ = some (.string ⟨#[]⟩) ∧ w.cell? ⟨g, i * 2 + 1, none⟩ = some (.string ⟨#[]⟩)) ∧ (w.frozen? ⟨g, i * 2, none⟩ = false ∧ w.frozen? ⟨g, i * 2 + 1, none⟩ = false) ∧
      PB ((w.setCell ⟨g, i * 2, none⟩ (.string (numT (some (cf l i))))).setCell ⟨g, i * 2 + 1, none⟩ (.string (denT (some (cf l i))))) g (l.take (i + 1)) (emp (n - (i + 1))) := by
  rw [emp_more hi] at h
  have ht : (l.take i).length = i := by rw [List.length_take]; omega
  have h1 := h.hole
  have h2 := h.fill (cf l i)
  rw [ht] at h1 h2
  rw [take_more (by omega)] at h2
  exact ⟨h1, ⟨Blk.frozen h _, Blk.frozen h _⟩, h2⟩
set_option maxHeartbeats 2000000 in
set_option maxRecDepth 100000 in
theorem pcomb_add {v u : Value} {p q r : List Rat} (w : World) (hv : Pv w v p) (hu : Pv w u q) (hp : p.length ≤ 13) (hq : q.length ≤ 13) (hr : combO addQ p q = some r) (hL : Laid w) :
    Calls Tryz.prog 219 #[v, u, .func (.func 61) #[] #[]] w (RetL7 w r) := by
  obtain ⟨l, hl, rfl⟩ : ∃ l, tabO (fun i => addQ (cf p i) (cf q i)) (max p.length q.length) = some l ∧ trimP l = r := by
    unfold combO at hr
    cases h : tabO (fun i => addQ (cf p i) (cf q i)) (max p.length q.length) with
    | none => rw [h] at hr; cases hr
    | some l => rw [h] at hr; exact ⟨l, rfl, Option.some.inj hr⟩
  obtain ⟨hl1, hl2⟩ := tab_some hl
  have hfl : ∀ i, fitQ (cf l i) := fun i => by
    by_cases h : i < max p.length q.length
    · exact addQ_fit (hl2 i h)
    · rw [cf_past (by omega)]; exact fit_zero
  have HFL := Lib.hid hfl
  have CO := Lib.hid (fun (i : Nat) (hi : i < max p.length q.length) w hL => padd_c (hv.fit i) (hu.fit i) (hl2 i hi) w hL)
  have CP := Lib.hid (fun (W : World) (hb : Below w.heap.size w W) (i : Nat) hL => atc_any W (hv.below hb) i hL)
  have CQ := Lib.hid (fun (W : World) (hb : Below w.heap.size w W) (i : Nat) hL => atc_any W (hu.below hb) i hL)
  have HL0 := Lib.hid hL
  obtain ⟨A, c, rfl, hc, hm, hx⟩ := hv
  obtain ⟨A', c', rfl, hc', hm', hx'⟩ := hu
  clear hr hl hl2 hfl hc hm hx hc' hm' hx'
  obtain ⟨n, hn⟩ : ∃ n, max p.length q.length = n := ⟨_, rfl⟩
  have hni : max (p.length : Int) (q.length : Int) = n := by omega
  have hn13 : n ≤ 13 := by omega
  rw [hn] at hl1 CO
  clear hn
  have hmixed : Tryz.prog.follows .mixedOrders = true := by kernel_rfl
  go_enter Tryz.func219, Tryz.ntmps219
  go_wp2_with (at_make; refine make_rat rfl _ _ Tryz.underlying119 rfl n (n : Int) rfl rfl rfl (by omega) ?_; intro w2 PB2 hB)
  have hg : w.heap.size ≤ w.heap.size := Nat.le_refl _
  obtain ⟨gs, hgs⟩ : ∃ g, w.heap.size = g := ⟨_, rfl⟩
  rw [hgs] at PB2 ⊢
  have hL2 := HL0.out.below hB
  go_loopg [18] n (fun k s18 wr => ∃ i : Nat, s18 = .int .i64 i ∧ i ≤ n ∧ n ≤ k + i ∧ PB wr gs (l.take i) (emp (n - i)) ∧ Below w.heap.size w wr)
  case atStart => exact ⟨0, rfl, by omega, by omega, PB2, hB⟩
  case round =>
    clear hB PB2 hL2
    obtain ⟨i, rfl, hi, hk, hPB, hB⟩ := hrel
    by_cases hgi : i < n
    · have hgii : (i : Int) < n := by omega
      have C3 := Lib.hid (CO.out i hgi)
      go_wp2_with (first
        | (go_at_call 286; (with_reducible refine (CP.out _ hB i (HL0.out.below hB)).mono ?_); clear CP; rintro e w3 ⟨rfl, hb⟩; replace hPB := hPB.below hb; replace hB := below_up hB hb; clear hb)
        | (go_at_call 286; (with_reducible refine (CQ.out _ hB i (HL0.out.below hB)).mono ?_); clear CQ; rintro e w4 ⟨rfl, hb⟩; replace hPB := hPB.below hb; replace hB := below_up hB hb; clear hb)
        | (go_at_call 61; (with_reducible refine (C3.out _ (HL0.out.below hB)).mono ?_); clear C3; rintro e w5 ⟨rfl, hb⟩; replace hPB := hPB.below hb; replace hB := below_up hB hb; clear hb; obtain ⟨⟨y0, y1⟩, ⟨z0, z1⟩, hPN⟩ := hPB.put hgi hl1))
      go_roundg (n - (i + 1))
      all_goals first | omega | exact ⟨i + 1, by go_num, by omega, by omega, hPN, (hB.setCell (by dsimp; omega) _).setCell (by dsimp; omega) _⟩
    · obtain rfl : i = n := by omega
      rw [← hl1, List.take_length] at hPB
      have hT := Lib.hid (ptrimmed_any (A := some ⟨gs, 0, none⟩) (c := l.length) wr (hPB.pvAll l.length (Nat.le_refl _) (by omega) HFL.out) (by omega) (HL0.out.below hB))
      rw [hl1] at hT
      go_wp2_with (go_at_call 172; (with_reducible refine hT.out.mono ?_); rintro e w6 ⟨rfl, ht, hb⟩)
      go_ret
      have hlt := trim_len l
      have hP := (hPB.below hb).pv (trimP l).length (trimP l).length hlt (Nat.le_refl _) (by omega) HFL.out
      rw [ht] at hP
      exact ⟨_, rfl, hP, below_up hB hb⟩
set_option maxHeartbeats 2000000 in
set_option maxRecDepth 100000 in
theorem pcomb_sub {v u : Value} {p q r : List Rat} (w : World) (hv : Pv w v p) (hu : Pv w u q) (hp : p.length ≤ 13) (hq : q.length ≤ 13) (hr : combO subQ p q = some r) (hL : Laid w) :
    Calls Tryz.prog 219 #[v, u, .func (.func 58) #[] #[]] w (RetL7 w r) := by
  obtain ⟨l, hl, rfl⟩ : ∃ l, tabO (fun i => subQ (cf p i) (cf q i)) (max p.length q.length) = some l ∧ trimP l = r := by
    unfold combO at hr
    cases h : tabO (fun i => subQ (cf p i) (cf q i)) (max p.length q.length) with
    | none => rw [h] at hr; cases hr
    | some l => rw [h] at hr; exact ⟨l, rfl, Option.some.inj hr⟩
  obtain ⟨hl1, hl2⟩ := tab_some hl
  have hfl : ∀ i, fitQ (cf l i) := fun i => by
    by_cases h : i < max p.length q.length
    · exact subQ_fit (hl2 i h)
    · rw [cf_past (by omega)]; exact fit_zero
  have HFL := Lib.hid hfl
  have CO := Lib.hid (fun (i : Nat) (hi : i < max p.length q.length) w hL => psub_c (hv.fit i) (hu.fit i) (hl2 i hi) w hL)
  have CP := Lib.hid (fun (W : World) (hb : Below w.heap.size w W) (i : Nat) hL => atc_any W (hv.below hb) i hL)
  have CQ := Lib.hid (fun (W : World) (hb : Below w.heap.size w W) (i : Nat) hL => atc_any W (hu.below hb) i hL)
  have HL0 := Lib.hid hL
  obtain ⟨A, c, rfl, hc, hm, hx⟩ := hv
  obtain ⟨A', c', rfl, hc', hm', hx'⟩ := hu
  clear hr hl hl2 hfl hc hm hx hc' hm' hx'
  obtain ⟨n, hn⟩ : ∃ n, max p.length q.length = n := ⟨_, rfl⟩
  have hni : max (p.length : Int) (q.length : Int) = n := by omega
  have hn13 : n ≤ 13 := by omega
  rw [hn] at hl1 CO
  clear hn
  have hmixed : Tryz.prog.follows .mixedOrders = true := by kernel_rfl
  go_enter Tryz.func219, Tryz.ntmps219
  go_wp2_with (at_make; refine make_rat rfl _ _ Tryz.underlying119 rfl n (n : Int) rfl rfl rfl (by omega) ?_; intro w2 PB2 hB)
  have hg : w.heap.size ≤ w.heap.size := Nat.le_refl _
  obtain ⟨gs, hgs⟩ : ∃ g, w.heap.size = g := ⟨_, rfl⟩
  rw [hgs] at PB2 ⊢
  have hL2 := HL0.out.below hB
  go_loopg [18] n (fun k s18 wr => ∃ i : Nat, s18 = .int .i64 i ∧ i ≤ n ∧ n ≤ k + i ∧ PB wr gs (l.take i) (emp (n - i)) ∧ Below w.heap.size w wr)
  case atStart => exact ⟨0, rfl, by omega, by omega, PB2, hB⟩
  case round =>
    clear hB PB2 hL2
    obtain ⟨i, rfl, hi, hk, hPB, hB⟩ := hrel
    by_cases hgi : i < n
    · have hgii : (i : Int) < n := by omega
      have C3 := Lib.hid (CO.out i hgi)
      go_wp2_with (first
        | (go_at_call 286; (with_reducible refine (CP.out _ hB i (HL0.out.below hB)).mono ?_); clear CP; rintro e w3 ⟨rfl, hb⟩; replace hPB := hPB.below hb; replace hB := below_up hB hb; clear hb)
        | (go_at_call 286; (with_reducible refine (CQ.out _ hB i (HL0.out.below hB)).mono ?_); clear CQ; rintro e w4 ⟨rfl, hb⟩; replace hPB := hPB.below hb; replace hB := below_up hB hb; clear hb)
        | (go_at_call 58; (with_reducible refine (C3.out _ (HL0.out.below hB)).mono ?_); clear C3; rintro e w5 ⟨rfl, hb⟩; replace hPB := hPB.below hb; replace hB := below_up hB hb; clear hb; obtain ⟨⟨y0, y1⟩, ⟨z0, z1⟩, hPN⟩ := hPB.put hgi hl1))
      go_roundg (n - (i + 1))
      all_goals first | omega | exact ⟨i + 1, by go_num, by omega, by omega, hPN, (hB.setCell (by dsimp; omega) _).setCell (by dsimp; omega) _⟩
    · obtain rfl : i = n := by omega
      rw [← hl1, List.take_length] at hPB
      have hT := Lib.hid (ptrimmed_any (A := some ⟨gs, 0, none⟩) (c := l.length) wr (hPB.pvAll l.length (Nat.le_refl _) (by omega) HFL.out) (by omega) (HL0.out.below hB))
      rw [hl1] at hT
      go_wp2_with (go_at_call 172; (with_reducible refine hT.out.mono ?_); rintro e w6 ⟨rfl, ht, hb⟩)
      go_ret
      have hlt := trim_len l
      have hP := (hPB.below hb).pv (trimP l).length (trimP l).length hlt (Nat.le_refl _) (by omega) HFL.out
      rw [ht] at hP
      exact ⟨_, rfl, hP, below_up hB hb⟩

end Go.Proofs.YtffndcjmabjhiaaGreatDoor

namespace Go.Proofs.YtffndcjmabjhiaaGreatDoor
open Go.RowKit Num
open Go.Shelf

set_option maxHeartbeats 2000000 in
set_option maxRecDepth 100000 in
theorem pover_any {v : Value} {p l : List Rat} {d : Rat} (w : World) (hv : Pv w v p) (hd : fitQ d) (hr : overO p d = some l) (hL : Laid w) :
    Calls Tryz.prog 231 #[v, .agg #[.string (numT (some d)), .string (denT (some d))]] w (RetL7 w l) := by
  obtain ⟨hl1, hl2⟩ := tab_some hr
  have hfl : ∀ i, fitQ (cf l i) := fun i => by
    by_cases h : i < p.length
    · exact divQ_fit (hl2 i h)
    · rw [cf_past (by omega)]; exact fit_zero
  have HFL := Lib.hid hfl
  have CO := Lib.hid (fun (i : Nat) (hi : i < p.length) w hL => pdiv_c (hv.fit i) hd (hl2 i hi) w hL)
  have HV := Lib.hid hv
  have HL0 := Lib.hid hL
  obtain ⟨A, c, rfl, hc, hm, hx⟩ := hv
  have hm1 := hm.1
  have HX := Lib.hid hx
  clear hr hl2 hfl hc hm hx hd
  obtain ⟨n, hn⟩ : ∃ n, p.length = n := ⟨_, rfl⟩
  rw [hn] at hl1 CO hm1 HX ⊢
  clear HV
  have b1 := below1 w (.cells #[.string (numT (some d)), .string (denT (some d))] 29)
  have Bd := Blk.new w 29 [.string (numT (some d)), .string (denT (some d))]
  go_enter Tryz.func231, Tryz.ntmps231
  go_wp2_with (at_make; refine make_rat rfl _ _ Tryz.underlying119 rfl n (n : Int) rfl rfl rfl (by omega) ?_; intro w2 PB2 hB; replace Bd := Bd.below hB; replace hB := below_up b1 hB; clear b1)
  have hsz : (w.alloc (.cells #[.string (numT (some d)), .string (denT (some d))] 29)).heap.size = w.heap.size + 1 := by simp
  rw [hsz] at PB2
  try rw [hsz]
  go_loopg [13] n (fun k s13 wr => ∃ i : Nat, s13 = .int .i64 i ∧ i ≤ n ∧ n ≤ k + i ∧ PB wr (w.heap.size + 1) (l.take i) (emp (n - i)) ∧ Blk wr w.heap.size 29 [.string (numT (some d)), .string (denT (some d))] ∧ Below w.heap.size w wr)
  case atStart => exact ⟨0, rfl, by omega, by omega, PB2, Bd, hB⟩
  case round =>
    clear hB PB2 Bd
    obtain ⟨i, rfl, hi, hk, hPB, Bd, hB⟩ := hrel
    by_cases hgi : i < n
    · have hgii : (i : Int) < n := by omega
      have C3 := Lib.hid (CO.out i hgi)
      obtain ⟨b, o, rfl, hy⟩ := HX.out (by omega)
      have k0 := (hB.cell (cell_lt (hy i hgi).1)).trans (hy i hgi).1
      have k1 := (hB.cell (cell_lt (hy i hgi).2)).trans (hy i hgi).2
      clear hy
      generalize cf p i = pi at *
      have Bd2 := Bd.alloc (.cells #[.string (numT (some pi)), .string (denT (some pi))] 29)
      have m0 := Bd2.cell 0 (v := .string (numT (some d))) rfl
      have m1 := Bd2.cell 1 (v := .string (denT (some d))) rfl
      have ba := below1 wr (.cells #[.string (numT (some pi)), .string (denT (some pi))] 29)
      go_wp2_with (go_at_call 60; (with_reducible refine (C3.out _ (HL0.out.below (below_up hB ba))).mono ?_); clear C3; rintro e w5 ⟨rfl, hb⟩; replace hb := below_up ba hb; replace hPB := hPB.below hb; replace Bd := Bd.below hb; replace hB := below_up hB hb; clear hb ba Bd2 m0 m1; obtain ⟨⟨y0, y1⟩, ⟨z0, z1⟩, hPN⟩ := hPB.put hgi hl1)
      go_roundg (n - (i + 1))
      all_goals first | omega | exact ⟨i + 1, by go_num, by omega, by omega, hPN, (Bd.other (by omega) _ _).other (by omega) _ _, (hB.setCell (by dsimp; omega) _).setCell (by dsimp; omega) _⟩
    · obtain rfl : i = n := by omega
      rw [← hl1, List.take_length] at hPB
      go_wp2
      go_ret
      have hP := hPB.pvAll l.length (Nat.le_refl _) (by omega) HFL.out
      rw [hl1] at hP
      exact ⟨_, rfl, hP, hB⟩

/-- A polynomial, made monic. -/
theorem monic_any {v : Value} {p l : List Rat} (w : World) (hv : Pv w v p) (hr : monicO p = some l) (hL : Laid w) : Calls Tryz.prog 169 #[v] w (RetL7 w l) := by
  by_cases h0 : p = []
  · unfold monicO at hr
    rw [if_pos h0] at hr
    obtain rfl := Option.some.inj hr
    subst h0
    have HV := Lib.hid hv
    obtain ⟨A, c, rfl, hc, hm, hx⟩ := hv
    go_enter Tryz.func169, Tryz.ntmps169
    go_wp2
    go_ret
    exact ⟨_, rfl, HV.out, Below.refl _ _⟩
  · unfold monicO at hr
    rw [if_neg h0] at hr
    have hp : 0 < p.length := List.length_pos_iff.2 h0
    have C1 := Lib.hid (lead_any w hv hp)
    have C2 := Lib.hid (fun (W : World) (hb : Below w.heap.size w W) => pover_any W (hv.below hb) (hv.fit _) hr (hL.below hb))
    obtain ⟨A, c, rfl, hc, hm, hx⟩ := hv
    generalize cf p (p.length - 1) = q at *
    have hpi : ((p.length : Int) == 0) = false := beq_eq_false_iff_ne.2 (by omega)
    clear hr hc hm hx h0
    go_enter Tryz.func169, Tryz.ntmps169
    go_wp2_with (first
      | (go_at_call 171; (with_reducible refine C1.out.mono ?_); rintro e w1 ⟨rfl, hb⟩)
      | (go_at_call 231; (with_reducible refine (C2.out _ hb).mono ?_); rintro e w2 ⟨u, rfl, hu, hb2⟩))
    go_ret
    exact ⟨u, rfl, hu, below_up hb hb2⟩

end Go.Proofs.YtffndcjmabjhiaaGreatDoor

namespace Go.Proofs.YtffndcjmabjhiaaGreatDoor
open Go.RowKit Num
open Go.Shelf

theorem run_copy2 {P : Program} (w : World) (dT sT ty elem : TypeId) (g o dLen dCap : Nat) (a : Addr) (sLen sCap : Nat) (cur : Array Value) (t : TypeId) (cs : List Value)
    (hu : P.underlying dT = some (.slice elem)) (hs : (P.info? elem).map (·.size) = some 2)
    (hg : w.heap[g]? = some (.cells cur t (0, 0))) (hn : cs.length = Nat.min sLen dLen * 2)
    (hsrc : ∀ j v, cs[j]? = some v → w.cell? (a.add j) = some v) (hfit : o + cs.length ≤ cur.size) (h1 : ∀ v ∈ cs, v.oneCell' = true) :
    (Builtin.copy_ #[dT, sT] ty #[.slice (some ⟨g, o, none⟩) dLen dCap, .slice (some a) sLen sCap]).run P w =
      .ok (goInt (Nat.min sLen dLen)) (w.setRow g (cur.toList.take o ++ cs ++ cur.toList.drop (o + cs.length)).toArray) := by
  have hl := run_loadCells_list (P := P) w a cs hsrc
  have hst := run_storeCells_at P g o t cs 0 cur w hg (by simpa using hfit) h1
  cases hq : P.info? elem with
  | none => simp [hq] at hs
  | some i =>
    have hi : i.size = 2 := by simpa [hq] using hs
    simp [Builtin.copy_, run_underlying hu, Builtin.lenOf, Builtin.firstCells, sizeOf, typeInfo, hq, hi, ← hn, hl, hst]

theorem rep_len (k : Nat) : (flat (List.replicate k 0)).length = k * 2 := by rw [flat_len, List.length_replicate]
theorem rep_add (m k : Nat) : flat (List.replicate (m + k) 0) = flat (List.replicate m 0) ++ flat (List.replicate k 0) := by rw [← flat_append, ← List.replicate_append_replicate]
theorem flat_cell (l : List Rat) : ∀ v ∈ flat l, v.oneCell' = true := by
  induction l with
  | nil => intro v hv; cases hv
  | cons q l ih =>
    intro v hv
    have hv' : v ∈ (.string (numT (some q)) :: .string (denT (some q)) :: flat l : List Value) := hv
    rcases List.mem_cons.1 hv' with rfl | hv'
    · rfl
    · rcases List.mem_cons.1 hv' with rfl | hv'
      · rfl
      · exact ih v hv'
theorem pb_copy {w : World} {g m n k src : Nat} (h : PB w g (List.replicate m 0) (emp (n - m))) (hsrc : ∀ j v, (flat (List.replicate k 0))[j]? = some v → w.cell? ((⟨src, 0, none⟩ : Addr).add j) = some v) (sl dl : Nat) (hk : Nat.min sl dl = k) (hkn : m + k ≤ n) (dc sc : Nat) (ty : TypeId) :
    ∃ w', (Builtin.copy_ #[119, 119] ty #[.slice (some ⟨g, m * 2, none⟩) dl dc, .slice (some ⟨src, 0, none⟩) sl sc]).run Tryz.prog w = .ok (.int .i64 k) w' ∧ PB w' g (List.replicate (m + k) 0) (emp (n - (m + k))) ∧ (∀ B W, Below B W w → B ≤ g → Below B W w') := by
  obtain ⟨i0, hi, hz0, hz1, hz2⟩ := info_parts Tryz.infoR
  have hlen : (flat (List.replicate m 0) ++ emp (n - m)).length = n * 2 := by rw [List.length_append, rep_len, emp_len]; omega
  have hrun := run_copy2 (P := Tryz.prog) w 119 119 ty 29 g (m * 2) dl dc ⟨src, 0, none⟩ sl sc (flat (List.replicate m 0) ++ emp (n - m)).toArray 29 (flat (List.replicate k 0)) Tryz.underlying119 (by rw [hi]; simp [hz1]) h (by rw [rep_len, hk]) hsrc (by rw [rep_len, List.size_toArray, hlen]; omega) (flat_cell _)
  rw [hk] at hrun
  refine ⟨_, hrun, ?_, fun B W hb hB => below_setRow hb hB _⟩
  have e : (flat (List.replicate m 0) ++ emp (n - m)).toArray.toList.take (m * 2) ++ flat (List.replicate k 0) ++ (flat (List.replicate m 0) ++ emp (n - m)).toArray.toList.drop (m * 2 + (flat (List.replicate k 0)).length) = flat (List.replicate (m + k) 0) ++ emp (n - (m + k)) := by
    have h1 : (flat (List.replicate m 0)).length = m * 2 := rep_len m
    rw [rep_len, rep_add]
    show (flat (List.replicate m 0) ++ emp (n - m)).take (m * 2) ++ _ ++ (flat (List.replicate m 0) ++ emp (n - m)).drop (m * 2 + k * 2) = _
    rw [List.take_append_of_le_length (by omega), List.take_of_length_le (by omega), List.drop_append, List.drop_eq_nil_of_le (by omega), List.nil_append, h1, show m * 2 + k * 2 - m * 2 = k * 2 by omega, emp_rep, emp_rep, List.drop_replicate, show (n - m) * 2 - k * 2 = (n - (m + k)) * 2 by omega]
  unfold PB Blk
  rw [← e]
  exact setRow_heap w g _ _ _ _ h

theorem blk_add {w : World} {g : Nat} {T : TypeId} {vs : List Value} (h : Blk w g T vs) (j : Nat) (v : Value) (hv : vs[j]? = some v) : w.cell? ((⟨g, 0, none⟩ : Addr).add j) = some v := by
  have e : (⟨g, 0, none⟩ : Addr).add j = ⟨g, j, none⟩ := by simp [Addr.add]; omega
  rw [e]; exact h.cell j hv
theorem PB.drew {w : World} {g : Nat} {l : List Rat} {rest : List Value} (h : PB w g l rest) : PB w.drew g l rest := h
theorem pb_src {w : World} {g m k : Nat} {rest : List Value} (h : PB w g (List.replicate m 0) rest) (hk : k ≤ m) (j : Nat) (v : Value) (hv : (flat (List.replicate k 0))[j]? = some v) : w.cell? ((⟨g, 0, none⟩ : Addr).add j) = some v := by
  refine blk_add h j v ?_
  have hj : j < (flat (List.replicate k 0)).length := (List.getElem?_eq_some_iff.1 hv).1
  rw [rep_len] at hj
  rw [show m = k + (m - k) by omega, rep_add, List.append_assoc, List.getElem?_append_left (by rw [rep_len]; omega)]
  exact hv
theorem step_pb_copy {ops : Array Oper} {o : Oper} {a : Act} {W : World} {K : Act → World → Prop} {Q : Exit → Act → World → Prop} {E : Prop} (hg : o.guard = none) (d x : Operand)
    (hop : o.op = Op.call { callee := Callee.builtin Builtin.copy, args := #[d, x], argTypes := #[119, 119] }) {g m n k dl dc sl sc : Nat} (hd : a.eval d = .slice (some ⟨g, m * 2, none⟩) dl dc) (hx : a.eval x = .slice (some ⟨g, 0, none⟩) sl sc)
    (hPB : PB W g (List.replicate m 0) (emp (n - m))) (hk : Nat.min sl dl = k) (hkn : m + k ≤ n) (hkm : k ≤ m)
    (hK : ∀ w', PB w' g (List.replicate (m + k) 0) (emp (n - (m + k))) → (∀ B W0, Below B W0 W → B ≤ g → Below B W0 w') → K (a.put o.dst (.int .i64 k)) w') :
    if Region.wanted o (yielded ops a.tmps) = true then Oper.wp Tryz.prog o a W K Q else E := by
  obtain ⟨w', hr, h1, h2⟩ := pb_copy hPB (pb_src hPB hkm) sl dl hk hkn dc sc o.type
  exact step_copy_runI hg d x _ _ hop _ _ hd hx hr (hK w' h1 h2)

set_option maxHeartbeats 2000000 in
set_option maxRecDepth 100000 in
theorem repeat_any (n : Nat) (h0 : 0 < n) (hn : n ≤ 1000) (gz : Nat) (w : World) (hz : Blk w gz 29 [.string (numT (some 0)), .string (denT (some 0))]) :
    Calls Tryz.prog 170 #[.slice (some ⟨gz, 0, none⟩) 1 1, .int .i64 n] w (fun e w' => e = .returned (.slice (some ⟨w.heap.size, 0, none⟩) n n) ∧ PB w' w.heap.size (List.replicate n 0) [] ∧ Below w.heap.size w w') := by
  have M : Hid (∀ w, Calls Tryz.prog 153 #[.int .u64 1, .int .u64 n] w (fun e w' => e = .returned (.tuple #[.int .u64 0, .int .u64 n]) ∧ w' = w)) := Lib.hid (fun w => by
    have := Any.bits_Mul { Tryz.lays105 with } 1 n (by omega) (by omega) w
    rwa [show 1 * n / 18446744073709551616 = 0 by omega, show 1 * n % 18446744073709551616 = n by omega] at this)
  have hn0 : ¬ (n : Int) < 0 := by omega
  have hnm : ¬ (n : Int) > 9223372036854775807 := by omega
  have hu : IntKind.u64.wrap (n : Int) = n := by rw [IntKind.wrap_u64]; omega
  have hi : IntKind.i64.wrap (n : Int) = n := IntWalk.i64_in _ (by omega)
  have hmixed : Tryz.prog.follows .mixedOrders = true := by kernel_rfl
  go_enter Tryz.func170, Tryz.ntmps170
  go_wp2_with (first
    | (go_at_call 153; (with_reducible refine (M.out _).mono ?_); rintro e w' ⟨rfl, hw⟩; rw [hw]; clear hw)
    | (at_make; refine make_rat rfl _ _ Tryz.underlying119 rfl n (n : Int) rfl rfl rfl (by omega) ?_; intro w2 PB2 hB)
    | (obtain ⟨w3, hr, PB3, hB3⟩ := (pb_copy (n := n) (m := 0) (k := 1) PB2 (blk_add (hz.below hB)) 1 n (by show min 1 n = 1; omega) (by omega) n 1 3); refine wpList_copy_runI _ rfl (.tmp 31) (.tmp 32) _ _ rfl _ _ rfl rfl hr ?_; replace hB := hB3 _ _ hB (Nat.le_refl _); clear hB3))
  obtain ⟨gs, hgs⟩ : ∃ g, w.heap.size = g := ⟨_, rfl⟩
  have hgw : w.heap.size ≤ gs := by omega
  rw [hgs] at PB3 ⊢
  clear hz PB2 hr
  go_loopg [8] n (fun k s8 wr => ∃ m : Nat, s8 = .int .i64 m ∧ 1 ≤ m ∧ m ≤ n ∧ n ≤ k + m ∧ PB wr gs (List.replicate m 0) (emp (n - m)) ∧ Below w.heap.size w wr)
  case atStart => exact ⟨1, rfl, by omega, by omega, by omega, PB3, hB⟩
  case round =>
    clear PB3 hB
    obtain ⟨m, rfl, h1, hmn, hk, PB3, hB⟩ := hrel
    by_cases hg : m < n
    · have hgi : (m : Int) < n := by omega
      have hmi : (m : Int) ≤ n := by omega
      have hne : ¬ n = m := by omega
      obtain ⟨k, hkm⟩ : ∃ k, min m (n - m) = k := ⟨_, rfl⟩
      have hw : IntKind.i64.wrap ((m : Int) + (k : Int)) = ((m + k : Nat) : Int) := by rw [IntWalk.i64_in _ (by omega)]; omega
      go_wp2_with fail
      go_region_law (refine step_pb_copy rfl _ _ rfl (g := gs) (m := m) (n := n) (k := k) (dl := n - m) (dc := n - m) (sl := m) (sc := n) (by simp [go_sem]) (by simp [go_sem]) (by first | exact PB3 | exact PB3.drew | exact PB3.drew.drew | exact PB3.drew.drew.drew) hkm (by omega) (by omega) ?_; intro w4 PB4 hB4)
      all_goals go_wp2
      all_goals go_roundg (n - (m + k))
      all_goals first | omega | exact ⟨m + k, by go_num, by omega, by omega, by omega, PB4, hB4 _ _ (by first | exact hB.drew | exact hB | exact hB.drew.drew) hgw⟩
    · obtain rfl : m = n := by omega
      go_wp2
      go_ret
      rw [Nat.sub_self] at PB3
      exact ⟨by rw [hgs]; rfl, by rw [hgs]; exact PB3, hB⟩

end Go.Proofs.YtffndcjmabjhiaaGreatDoor
