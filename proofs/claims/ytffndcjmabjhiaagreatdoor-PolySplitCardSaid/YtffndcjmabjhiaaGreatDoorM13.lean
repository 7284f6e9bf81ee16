/- Rows of intervals of a call's own. Conditions: none. The recursive function of Isolate. Conditions: the tables of strconv; the chain is small; no operation fails. -/
import Derived.Test.YtffndcjmabjhiaaGreatDoorM12
import Derived.Test.YtffndcjmabjhiaaGreatDoorK16
namespace Go.Proofs.YtffndcjmabjhiaaGreatDoor
open Go.RowKit Num
open Go.Shelf

/-- The ends of intervals, one behind the other. -/
def pairs : List (Rat × Rat) → List Rat
  | [] => []
  | x :: l => x.1 :: x.2 :: pairs l
theorem pairs_append (l k : List (Rat × Rat)) : pairs (l ++ k) = pairs l ++ pairs k := by
  induction l with
  | nil => rfl
  | cons x l ih => show _ :: _ :: pairs (l ++ k) = _; rw [ih]; rfl
theorem pairs_len (l : List (Rat × Rat)) : (pairs l).length = l.length * 2 := by
  induction l with
  | nil => rfl
  | cons x l ih => show (pairs l).length + 1 + 1 = _; rw [ih, List.length_cons]; omega
theorem Tryz.infoI : (Tryz.prog.info? 39).map (fun i => (i.zero, i.size, i.bytes)) = some (some (.agg #[.string ⟨#[]⟩, .string ⟨#[]⟩, .string ⟨#[]⟩, .string ⟨#[]⟩]), 4, 64) := by kernel_rfl
/-- A row of the call's own that holds intervals. -/
def RowI (w : World) (B : Nat) (v : Value) (l : List (Rat × Rat)) : Prop := w.ownsRow B 39 4 v l.length (flat (pairs l))
theorem RowI.nil (w : World) (B : Nat) : RowI w B (.slice none 0 0) [] := World.ownsRow_nil _ _ _ _
theorem RowI.kept {w w' : World} {B : Nat} {v : Value} {l : List (Rat × Rat)} {row : Option Nat} (h : RowI w B v l) (hg : w.grownBy w' row) (hr : v.ownBlock = none ∨ v.ownBlock ≠ row) : RowI w' B v l := World.ownsRow.kept h hg hr
theorem RowI.below {w w' : World} {B : Nat} {v : Value} {l : List (Rat × Rat)} (h : RowI w B v l) (hb : Below w.heap.size w w') : RowI w' B v l :=
  h.kept (row := none) ⟨hb.os, hb.tape, hb.output, hb.size, fun j hj _ => hb.block j hj⟩ (by cases hv : v.ownBlock <;> simp)
theorem RowI.slv {w : World} {B : Nat} {v : Value} {l : List (Rat × Rat)} (h : RowI w B v l) : ∃ A c, v = .slice A l.length c := by
  obtain ⟨h1, h2⟩ := h
  rcases h2 with ⟨rfl, hn⟩ | ⟨g, cap, cur, rfl, -⟩
  · exact ⟨none, 0, by rw [hn]⟩
  · exact ⟨_, _, rfl⟩
theorem RowI.lt {w : World} {B : Nat} {v : Value} {l : List (Rat × Rat)} (h : RowI w B v l) {k : Nat} (hk : v.ownBlock = some k) : B ≤ k ∧ k < w.heap.size := World.ownsRow.lt h k hk
theorem RowI.ne {w : World} {B : Nat} {v : Value} {l : List (Rat × Rat)} (h : RowI w B v l) {j : Nat} {o : Obj} (hj : w.heap[j]? = some o) (hno : ∀ cur, o ≠ .cells cur 39 (0, 0)) : v.ownBlock ≠ some j := by
  obtain ⟨h1, h2⟩ := h
  rcases h2 with ⟨rfl, hn⟩ | ⟨g, cap, cur, rfl, hg, hh, -⟩
  · exact fun e => by cases e
  · intro e
    obtain rfl : g = j := by simpa [Value.ownBlock] using e
    rw [hh] at hj; cases hj; exact hno cur rfl
/-- The cells of what a row reads as. -/
theorem RowI.get {w : World} {B : Nat} {v : Value} {l : List (Rat × Rat)} (h : RowI w B v l) (j : Nat) (hj : j < l.length) : ∃ g c, v = .slice (some ⟨g, 0, none⟩) l.length c ∧
    w.cell? ⟨g, j * 4, none⟩ = some (.string (numT (some (l[j]).1))) ∧ w.cell? ⟨g, j * 4 + 1, none⟩ = some (.string (denT (some (l[j]).1))) ∧ w.cell? ⟨g, j * 4 + 2, none⟩ = some (.string (numT (some (l[j]).2))) ∧ w.cell? ⟨g, j * 4 + 3, none⟩ = some (.string (denT (some (l[j]).2))) := by
  have h' := h
  obtain ⟨h1, h2⟩ := h
  rcases h2 with ⟨rfl, hn⟩ | ⟨g, cap, cur, rfl, hg, hh, hl, hc, hcap, h3⟩
  · omega
  · have hcf : ∀ (l : List (Rat × Rat)) (j : Nat) (hj : j < l.length), cf (pairs l) (j * 2) = (l[j]).1 ∧ cf (pairs l) (j * 2 + 1) = (l[j]).2 := by
      intro l
      induction l with
      | nil => intro j hj; simp at hj
      | cons x l ih =>
        intro j hj
        cases j with
        | zero => exact ⟨rfl, rfl⟩
        | succ j =>
          have := ih j (by simpa using hj)
          rw [show (j + 1) * 2 = j * 2 + 1 + 1 by omega]
          exact this
    obtain ⟨e1, e2⟩ := hcf l j hj
    have f1 := flat_get (pairs l) (j * 2) (by rw [pairs_len]; omega)
    have f2 := flat_get (pairs l) (j * 2 + 1) (by rw [pairs_len]; omega)
    rw [e1] at f1
    rw [e2] at f2
    refine ⟨g, cap, rfl, ?_, ?_, ?_, ?_⟩
    · rw [World.ownsRow.cellAt h' (j * 4) (by omega), show j * 4 = j * 2 * 2 by omega]; exact f1.1
    · rw [World.ownsRow.cellAt h' (j * 4 + 1) (by omega), show j * 4 = j * 2 * 2 by omega]; exact f1.2
    · rw [World.ownsRow.cellAt h' (j * 4 + 2) (by omega), show j * 4 + 2 = (j * 2 + 1) * 2 by omega]; exact f2.1
    · rw [World.ownsRow.cellAt h' (j * 4 + 3) (by omega), show j * 4 + 3 = (j * 2 + 1) * 2 + 1 by omega]; exact f2.2
/-- A row of intervals, appended to by one of a new block. -/
theorem app_iv {w : World} {ops : Array Oper} {rest : List Oper} {o : Oper} {a : Act} {Q : Exit → Act → World → Prop} (hgd : o.guard = none) (s x : Operand) {t : TypeId} (ht : Tryz.prog.underlying t = some (.slice 39))
    (ho : o.op = .call { callee := .builtin .append, args := #[s, x], argTypes := #[t, t] }) (B : Nat) (v : Value) (l : List (Rat × Rat)) (p q : Rat) (hs : a.eval s = v)
    (hown : RowI w B v l) (hx : a.eval x = .slice (some ⟨w.heap.size, 0, none⟩) 1 1) (hl : l.length ≤ 1000) (hB : B ≤ w.heap.size)
    (h : ∀ v' w', RowI w' B v' (l ++ [(p, q)]) → (w.alloc (.cells #[.string (numT (some p)), .string (denT (some p)), .string (numT (some q)), .string (denT (some q))] 39)).grownBy w' v.ownBlock → wpList Tryz.prog ops Q rest (a.put o.dst v') w') :
    wpList Tryz.prog ops Q (o :: rest) a (w.alloc (.cells #[.string (numT (some p)), .string (denT (some p)), .string (numT (some q)), .string (denT (some q))] 39)) := by
  obtain ⟨i0, hi, hz0, hz1, hz2⟩ := info_parts Tryz.infoI
  refine wpList_append_own _ hgd s x t ho B 39 i0 (.agg #[.string ⟨#[]⟩, .string ⟨#[]⟩, .string ⟨#[]⟩, .string ⟨#[]⟩]) 4 64 ht hi hz0 hz1 hz2 rfl (by decide) v l.length _ hs (World.ownsRow.alloc hown _) ⟨w.heap.size, 0, none⟩ 1 1 [.string (numT (some p)), .string (denT (some p)), .string (numT (some q)), .string (denT (some q))] hx rfl (fun j u hu => ?_) ?_ ?_ ?_ ?_ ?_
  · have e : (⟨w.heap.size, 0, none⟩ : Addr).add j = ⟨w.heap.size, j, none⟩ := by simp [Addr.add]; omega
    rw [e]
    exact (Blk.new w 39 [.string (numT (some p)), .string (denT (some p)), .string (numT (some q)), .string (denT (some q))]).cell j hu
  · intro u hu; simp at hu; rcases hu with rfl | rfl | rfl | rfl <;> rfl
  · unfold maxLen; omega
  · omega
  · simp; omega
  · intro v' w' hown' hg _
    refine h v' w' ?_ hg
    unfold RowI
    rw [List.length_append, pairs_append, flat_append]
    exact hown'

end Go.Proofs.YtffndcjmabjhiaaGreatDoor

namespace Go.Proofs.YtffndcjmabjhiaaGreatDoor
open Go.RowKit Num
open Go.Shelf

/-- How small an interval with one root is. -/
def smallO (dv : Int) (a b most : Rat) : Option Bool := if dv = 1 then (subQ b a).bind fun d => some (ratLe d most) else some false
theorem bis_parts {ls : List (List Rat)} {most : Rat} {ok : Rat → Bool} {k : Nat} {a b : Rat} {new : List (Rat × Rat)}
    (h : ((addQ a b).bind fun s => (divQ s 2).bind fun m => if ok m = true then (examO ls most ok k a m).bind fun l1 => (examO ls most ok k m b).bind fun l2 => some (l1 ++ l2) else none) = some new) :
    ∃ s m l1 l2, addQ a b = some s ∧ divQ s 2 = some m ∧ ok m = true ∧ examO ls most ok k a m = some l1 ∧ examO ls most ok k m b = some l2 ∧ new = l1 ++ l2 := by
  obtain ⟨s, h4, h5⟩ := Option.bind_eq_some_iff.1 h
  obtain ⟨m, h6, h7⟩ := Option.bind_eq_some_iff.1 h5
  by_cases c3 : ok m = true
  · rw [if_pos c3] at h7
    obtain ⟨l1, h8, h9⟩ := Option.bind_eq_some_iff.1 h7
    obtain ⟨l2, h10, h11⟩ := Option.bind_eq_some_iff.1 h9
    exact ⟨s, m, l1, l2, h4, h6, c3, h8, h10, (Option.some.inj h11).symm⟩
  · rw [if_neg c3] at h7; cases h7
theorem exam_cases {ls : List (List Rat)} {most : Rat} {ok : Rat → Bool} {k : Nat} {a b : Rat} {new : List (Rat × Rat)} (h : examO ls most ok (k + 1) a b = some new) :
    (varL ls a = varL ls b ∧ new = []) ∨ (varL ls a ≠ varL ls b ∧ ∃ sm, smallO ((varL ls a : Int) - varL ls b) a b most = some sm ∧
      ((sm = true ∧ rootL ls b = true ∧ new = [(b, b)]) ∨ (sm = true ∧ rootL ls b = false ∧ rootL ls a = false ∧ new = [(a, b)]) ∨
        (((sm = true ∧ rootL ls b = false ∧ rootL ls a = true) ∨ sm = false) ∧ ∃ s m l1 l2, addQ a b = some s ∧ divQ s 2 = some m ∧ ok m = true ∧ examO ls most ok k a m = some l1 ∧ examO ls most ok k m b = some l2 ∧ new = l1 ++ l2))) := by
  unfold examO at h
  by_cases h0 : varL ls a = varL ls b
  · rw [if_pos h0] at h
    exact .inl ⟨h0, (Option.some.inj h).symm⟩
  · rw [if_neg h0] at h
    obtain ⟨sm, h1, h2⟩ := Option.bind_eq_some_iff.1 h
    refine .inr ⟨h0, sm, h1, ?_⟩
    cases sm with
    | false =>
      rw [if_neg (by simp), if_neg (by simp)] at h2
      exact .inr (.inr ⟨.inr rfl, bis_parts h2⟩)
    | true =>
      cases hb : rootL ls b with
      | true =>
        rw [hb, if_pos (by simp)] at h2
        exact .inl ⟨rfl, rfl, (Option.some.inj h2).symm⟩
      | false =>
        cases ha : rootL ls a with
        | false =>
          rw [hb, ha, if_neg (by simp), if_pos (by simp)] at h2
          exact .inr (.inl ⟨rfl, rfl, rfl, (Option.some.inj h2).symm⟩)
        | true =>
          rw [hb, ha, if_neg (by simp), if_neg (by simp)] at h2
          exact .inr (.inr ⟨.inl ⟨rfl, rfl, rfl⟩, bis_parts h2⟩)

/-- What the function finds around it. -/
structure Env (wS w0 : World) (q bm bs be : Nat) (ch : Value) (ls : List (List Rat)) (most : Rat) (sp : List Value) : Prop where
  low : Below wS.heap.size wS w0
  laid : Laid wS
  cv : Cv wS ch ls
  ql : wS.heap.size ≤ q
  qh : q < w0.heap.size
  m : Blk w0 bm 29 [.string (numT (some most)), .string (denT (some most))]
  mq : bm ≠ q
  s : Blk w0 bs 100 (ch :: sp)
  sq : bs ≠ q
  e : Blk w0 be 108 [.func (.func 57) #[] #[.pointer (some ⟨bm, 0, none⟩), .pointer (some ⟨q, 0, none⟩), .pointer (some ⟨bs, 0, none⟩), .pointer (some ⟨be, 0, none⟩)]]
  eq : be ≠ q
/-- What stands in memory around a call of the function. -/
structure ExW (w0 W : World) (q : Nat) (v : Value) (l : List (Rat × Rat)) : Prop where
  turn : Turn [q] w0 W
  box : Blk W q 34 [v]
  row : RowI W w0.heap.size v l
theorem ExW.low {wS w0 W : World} {q bm bs be : Nat} {ch : Value} {ls : List (List Rat)} {most : Rat} {sp : List Value} {v : Value} {l : List (Rat × Rat)} (E : Env wS w0 q bm bs be ch ls most sp) (h : ExW w0 W q v l) : Below wS.heap.size wS W :=
  h.turn.below E.low (Nat.le_refl _) (fun k hk => by rw [List.mem_singleton] at hk; subst hk; exact E.ql)
theorem ExW.below {w0 W W' : World} {q : Nat} {v : Value} {l : List (Rat × Rat)} (h : ExW w0 W q v l) (hb : Below W.heap.size W W') : ExW w0 W' q v l :=
  ⟨h.turn.trans (Turn.of_below hb), h.box.below hb, h.row.below hb⟩
/-- No row of intervals. -/
def NotI (o : Obj) : Prop := ∀ cur, o ≠ .cells cur 39 (0, 0)
/-- The function has run: new intervals are there; what else was there lies as it lay. -/
def RetEx (w0 W : World) (q : Nat) (l : List (Rat × Rat)) (e : Ending) (W' : World) : Prop :=
  e = .returned (.tuple #[]) ∧ ∃ v', ExW w0 W' q v' l ∧ ∀ k o, W.heap[k]? = some o → NotI o → k ≠ q → W'.heap[k]? = some o
theorem keep_below {W W' : World} (h : Below W.heap.size W W') {k : Nat} {o : Obj} (hk : W.heap[k]? = some o) : W'.heap[k]? = some o := (h.block k (Array.getElem?_eq_some_iff.1 hk).1).trans hk
/-- One interval has been appended. -/
theorem ExW.app {w0 W wA : World} {q : Nat} {v v' : Value} {l : List (Rat × Rat)} {p r : Rat} {o : Obj} (h : ExW w0 W q v l) (hq : q < w0.heap.size) (hR : RowI wA w0.heap.size v' (l ++ [(p, r)])) (hg : (W.alloc o).grownBy wA v.ownBlock) :
    ExW w0 (wA.setCell ⟨q, 0, none⟩ v') q v' (l ++ [(p, r)]) ∧ ∀ k o, W.heap[k]? = some o → NotI o → k ≠ q → (wA.setCell ⟨q, 0, none⟩ v').heap[k]? = some o := by
  have hsz : W.heap.size ≤ wA.heap.size := by have := hg.size; rw [World.size_alloc] at this; omega
  have hbx : Blk wA q 34 [v] := (h.box.alloc o).block (hg.block q (by rw [World.size_alloc]; have := h.box.lt; omega) (fun e => by have := (h.row.lt e.symm).1; omega))
  refine ⟨⟨⟨hg.os.trans h.turn.os, hg.tape.trans h.turn.tape, hg.output.trans h.turn.output, ?_, ?_⟩, hbx.set 0 v', ?_⟩, ?_⟩
  · have := h.turn.size
    simp [World.setCell]
    omega
  · intro k hk hkq
    have hkq' : k ≠ q := fun e => hkq (by rw [e]; exact List.mem_singleton.2 rfl)
    have hkW : k < W.heap.size := Nat.lt_of_lt_of_le hk h.turn.size
    refine (Below.heap_setCell _ _ _ _ hkq').trans ((hg.block k (by rw [World.size_alloc]; omega) (fun e => ?_)).trans ((Below.heap_alloc _ _ k hkW).trans (h.turn.block k hk hkq)))
    have := (h.row.lt e.symm).1
    omega
  · refine hR.kept (grownBy_setCell' wA q v') ?_
    cases hv : v'.ownBlock with
    | none => exact .inl rfl
    | some k => exact .inr (fun e => by have := (hR.lt hv).1; cases e; omega)
  · intro k o' hk hn hkq
    have hkW : k < W.heap.size := (Array.getElem?_eq_some_iff.1 hk).1
    exact (Below.heap_setCell _ _ _ _ hkq).trans ((hg.block k (by rw [World.size_alloc]; omega) (fun e => (h.row.ne hk hn) e.symm)).trans ((Below.heap_alloc _ _ k hkW).trans hk))

end Go.Proofs.YtffndcjmabjhiaaGreatDoor
