/- The chain of Sturm, the places and the intervals, as package poly computes them. Plain. Rows of polynomials of a call's own; cells that hold strings keep them. Conditions: none. The iterator over a chain of Sturm. Conditions: the tables of strconv; no operation fails. -/
import Derived.Test.YtffndcjmabjhiaaGreatDoorM7
import Derived.Test.YtffndcjmabjhiaaGreatDoorM1
import Derived.Test.YtffndcjmabjhiaaGreatDoorM8
import Derived.OwnWalkIn
import Derived.RangeFuncNested
import Derived.Test.YtffndcjmabjhiaaGreatDoorM5
import Derived.Test.YtffndcjmabjhiaaGreatDoorI4
namespace Go.Proofs.YtffndcjmabjhiaaGreatDoor
open Num

theorem divO_len {q : List Rat} : ∀ (n : Nat) {u r u' r' : List Rat}, divO q n u r = some (u', r') → u'.length = u.length
  | 0, u, r, u', r', h => by
    have h' : some (u, r) = some (u', r') := h
    rw [(Prod.mk.inj (Option.some.inj h')).1]
  | n + 1, u, r, u', r', h => by
    have h' : (if r.length < q.length then some (u, r) else (divQ (cf r (r.length - 1)) (cf q (q.length - 1))).bind fun f => (offO f (r.length - q.length) q (q.length - 1) r).bind fun r' => divO q n (u.set (r.length - q.length) f) (trimP (r'.take (r.length - 1)))) = some (u', r') := h
    by_cases hl : r.length < q.length
    · rw [if_pos hl] at h'
      rw [(Prod.mk.inj (Option.some.inj h')).1]
    · rw [if_neg hl] at h'
      obtain ⟨f, h1, h2⟩ := Option.bind_eq_some_iff.1 h'
      obtain ⟨r2, h3, h4⟩ := Option.bind_eq_some_iff.1 h2
      rw [divO_len n h4, List.length_set]
theorem byO_len {p q u r : List Rat} (h : byO p q = some (u, r)) : u.length ≤ p.length := by
  unfold byO at h
  by_cases hq : q = []
  · rw [if_pos hq] at h; cases h
  · rw [if_neg hq] at h
    rw [divO_len _ h, List.length_replicate]
    have := List.length_pos_iff.2 hq
    omega

/-- What follows two polynomials in a chain. -/
def lastC (l : List Rat) : Rat := cf l (l.length - 1)
def sizeO (z : Rat) : Option Rat := if 0 < sgnQ z then subQ 0 z else some z
def nextO (l m : List Rat) : Option (List Rat) :=
  (byO l m).bind fun d => if d.2 = [] then some [] else (sizeO (lastC d.2)).bind fun s => overO d.2 s
/-- The chain from two of its polynomials on. -/
def chainO : Nat → List Rat → List Rat → Option (List (List Rat))
  | 0, _, _ => none
  | n + 1, l, m => if m = [] then some [l] else (nextO l m).bind fun r => (chainO n m r).bind fun t => some (l :: t)
def startO (p : List Rat) : Option (List Rat × List Rat) :=
  (derivO p).bind fun d => (gcdO d.length p d).bind fun g => (byO p g).bind fun q => (derivO q.1).bind fun e => some (q.1, e)
def sturmO (p : List Rat) : Option (List (List Rat)) := (startO p).bind fun s => chainO 14 s.1 s.2
theorem start_parts {p : List Rat} {s : List Rat × List Rat} (h : startO p = some s) : ∃ d g q, derivO p = some d ∧ gcdO d.length p d = some g ∧ byO p g = some q ∧ derivO q.1 = some s.2 ∧ s.1 = q.1 := by
  unfold startO at h
  obtain ⟨d, h1, h2⟩ := Option.bind_eq_some_iff.1 h
  obtain ⟨g, h3, h4⟩ := Option.bind_eq_some_iff.1 h2
  obtain ⟨q, h5, h6⟩ := Option.bind_eq_some_iff.1 h4
  obtain ⟨e, h7, h8⟩ := Option.bind_eq_some_iff.1 h6
  cases h8
  exact ⟨d, g, q, h1, h3, h5, h7, rfl⟩
theorem chain_end {n : Nat} {l : List Rat} {t : List (List Rat)} (h : chainO (n + 1) l [] = some t) : t = [l] := by
  have h' : (if ([] : List Rat) = [] then some [l] else (nextO l []).bind fun r => (chainO n [] r).bind fun t => some (l :: t)) = some t := h
  rw [if_pos rfl] at h'
  exact (Option.some.inj h').symm
theorem chain_step {n : Nat} {l m : List Rat} {t : List (List Rat)} (h : chainO (n + 1) l m = some t) (hm : m ≠ []) : ∃ r k, nextO l m = some r ∧ chainO n m r = some k ∧ t = l :: k := by
  have h' : (if m = [] then some [l] else (nextO l m).bind fun r => (chainO n m r).bind fun t => some (l :: t)) = some t := h
  rw [if_neg hm] at h'
  obtain ⟨r, h1, h2⟩ := Option.bind_eq_some_iff.1 h'
  obtain ⟨k, h3, h4⟩ := Option.bind_eq_some_iff.1 h2
  exact ⟨r, k, h1, h3, (Option.some.inj h4).symm⟩
theorem chain_head {n : Nat} {l m : List Rat} {t : List (List Rat)} (h : chainO n l m = some t) : ∃ k, t = l :: k := by
  cases n with
  | zero => cases h
  | succ n =>
    by_cases hm : m = []
    · subst hm; exact ⟨[], chain_end h⟩
    · obtain ⟨r, k, _, _, e⟩ := chain_step h hm; exact ⟨k, e⟩
theorem next_parts {l m r : List Rat} (h : nextO l m = some r) : ∃ q s, byO l m = some (q, s) ∧ ((s = [] ∧ r = []) ∨ (s ≠ [] ∧ ∃ z, sizeO (lastC s) = some z ∧ overO s z = some r)) := by
  unfold nextO at h
  obtain ⟨⟨q, s⟩, h1, h2⟩ := Option.bind_eq_some_iff.1 h
  refine ⟨q, s, h1, ?_⟩
  by_cases hs : s = []
  · left
    have h3 : (if s = [] then some [] else (sizeO (lastC s)).bind fun z => overO s z) = some r := h2
    rw [if_pos hs] at h3
    exact ⟨hs, (Option.some.inj h3).symm⟩
  · right
    have h3 : (if s = [] then some [] else (sizeO (lastC s)).bind fun z => overO s z) = some r := h2
    rw [if_neg hs] at h3
    obtain ⟨z, h4, h5⟩ := Option.bind_eq_some_iff.1 h3
    exact ⟨hs, z, h4, h5⟩

/-- One sign is looked at: the last one that is not zero, and how often it has changed. -/
def vstep (a : Int × Nat) (s : Int) : Int × Nat := (if s = 0 then a.1 else s, if s * a.1 < 0 then a.2 + 1 else a.2)
def signs (ls : List (List Rat)) (x : Rat) : List Int := ls.map fun p => sgnQ (evP p x)
def seen (ls : List (List Rat)) (x : Rat) (i : Nat) : Int × Nat := ((signs ls x).take i).foldl vstep (0, 0)
/-- How often the sign changes at x. -/
def varL (ls : List (List Rat)) (x : Rat) : Nat := (seen ls x ls.length).2
/-- Whether the first one is zero at x. -/
def rootL (ls : List (List Rat)) (x : Rat) : Bool := match ls with
  | [] => false
  | p :: _ => sgnQ (evP p x) == 0
theorem sgn_mem (x : Rat) : sgnQ x = -1 ∨ sgnQ x = 0 ∨ sgnQ x = 1 := by
  unfold sgnQ; rw [cmpO_some]
  by_cases h1 : x < 0
  · rw [if_pos h1]; exact .inl rfl
  · by_cases h2 : 0 < x
    · rw [if_neg h1, if_pos h2]; exact .inr (.inr rfl)
    · rw [if_neg h1, if_neg h2]; exact .inr (.inl rfl)
theorem seen_step (ls : List (List Rat)) (x : Rat) (i : Nat) (h : i < ls.length) : seen ls x (i + 1) = vstep (seen ls x i) (sgnQ (evP (ls.getD i []) x)) := by
  unfold seen
  have e : (signs ls x).take (i + 1) = (signs ls x).take i ++ [sgnQ (evP (ls.getD i []) x)] := by
    rw [List.take_add_one]
    congr 1
    unfold signs
    rw [List.getElem?_map, List.getD_eq_getElem?_getD, List.getElem?_eq_getElem h]
    rfl
  rw [e, List.foldl_append]
  rfl
theorem seen_bd (ls : List (List Rat)) (x : Rat) (i : Nat) (h : i ≤ ls.length) : (seen ls x i).2 ≤ i ∧ ((seen ls x i).1 = -1 ∨ (seen ls x i).1 = 0 ∨ (seen ls x i).1 = 1) := by
  induction i with
  | zero => exact ⟨Nat.le_refl _, .inr (.inl rfl)⟩
  | succ i ih =>
    obtain ⟨h1, h2⟩ := ih (by omega)
    rw [seen_step ls x i (by omega)]
    unfold vstep
    have h3 := sgn_mem (evP (ls.getD i []) x)
    refine ⟨?_, ?_⟩
    · dsimp; split <;> omega
    · dsimp; split
      · exact h2
      · exact h3

/-- The intervals between two places: small ones hold one root. -/
def ratLe (a b : Rat) : Bool := decide (cmpO (some a) (some b) ≤ 0)
def examO (ls : List (List Rat)) (most : Rat) (ok : Rat → Bool) : Nat → Rat → Rat → Option (List (Rat × Rat))
  | 0, _, _ => none
  | k + 1, a, b =>
    if varL ls a = varL ls b then some [] else
    (if (varL ls a : Int) - varL ls b = 1 then (subQ b a).bind fun d => some (ratLe d most) else some false).bind fun small =>
    if (small && rootL ls b) = true then some [(b, b)] else if (small && !rootL ls a) = true then some [(a, b)] else
    (addQ a b).bind fun s => (divQ s 2).bind fun m => if ok m = true then (examO ls most ok k a m).bind fun l1 => (examO ls most ok k m b).bind fun l2 => some (l1 ++ l2) else none

end Go.Proofs.YtffndcjmabjhiaaGreatDoor

namespace Go.Proofs.YtffndcjmabjhiaaGreatDoor
open Go.RowKit Num
open Go.Shelf

/-- A piece of code that falls off its end, and what then holds. -/
theorem wpIn_cut {F : Fence} {n : Nat} {P : Program} {c : Code} {Q : Exit → Act → World → Prop} {a : Act} {w : World} (K : Act → World → Prop) (h : c.wpIn F n P (Exit.then K fun _ _ _ => False) a w) (hk : ∀ a' w', K a' w' → Q .normal a' w') : c.wpIn F n P Q a w :=
  wpIn_mono h fun e a' w' hq => by cases e <;> first | exact hk _ _ hq | exact hq.elim
theorem spot_none {W : World} {b k : Nat} {p : Nat} {v : Value} (h : W.cell? ⟨b, k, some p⟩ = some v) : False := by
  unfold World.cell? at h
  split at h <;> simp at h
/-- What held a string holds it still. -/
def SK (W W' : World) : Prop := ∀ (a : Addr) (s : ByteArray), W.cell? a = some (.string s) → W'.cell? a = some (.string s)
theorem SK.refl (W : World) : SK W W := fun _ _ h => h
theorem SK.trans {A B C : World} (h : SK A B) (k : SK B C) : SK A C := fun a s hc => k a s (h a s hc)
theorem SK.of_below {W W' : World} (h : Below W.heap.size W W') : SK W W' := fun _ _ hc => (h.cell (cell_lt hc)).trans hc
theorem Pv.sk {W W' : World} {v : Value} {l : List Rat} (h : Pv W v l) (k : SK W W') : Pv W' v l := by
  obtain ⟨A, c, hv, hc, hm, hx⟩ := h
  refine ⟨A, c, hv, hc, hm, fun h0 => ?_⟩
  obtain ⟨b, o, hA, hy⟩ := hx h0
  exact ⟨b, o, hA, fun j hj => ⟨k _ _ (hy j hj).1, k _ _ (hy j hj).2⟩⟩
theorem SK.of_grown {W W' : World} {row : Option Nat} (hg : W.grownBy W' row) (hr : ∀ Q, row = some Q → NoStr W Q) : SK W W' := fun a s hc => by
  have hlt := cell_lt hc
  have hne : some a.block ≠ row := fun e => by
    have h1 := hr a.block e.symm
    obtain ⟨b, k, p⟩ := a
    cases p with
    | none => exact h1 _ _ hc
    | some p => exact spot_none hc
  exact (World.cell?_of_block (w := W) (a := a) (hg.block a.block hlt hne)).trans hc
theorem noStr_obj {W : World} {l : Nat} {o : Obj} (h : W.heap[l]? = some o) (ho : o.isCells = false) : NoStr W l := fun k s hc => by
  obtain ⟨o', ho', hcc⟩ := cells_of_cell hc
  have h' : W.heap[l]? = some o' := ho'
  rw [h] at h'; cases h'; rw [ho] at hcc; cases hcc
theorem SK.putObj {W : World} {l : Nat} {o : Obj} (o' : Obj) (h : W.heap[l]? = some o) (ho : o.isCells = false) : SK W (W.putObj l o') :=
  SK.of_grown (grownBy_putObj' W l o') (fun Q e => by cases e; exact noStr_obj h ho)
theorem SK.setCell {W : World} {Q j : Nat} (u : Value) (hq : NoStr W Q) : SK W (W.setCell ⟨Q, j, none⟩ u) := fun a s hc => by
  have hne : a.block ≠ Q := fun e => by
    obtain ⟨b, k, p⟩ := a
    have e' : b = Q := e
    subst e'
    cases p with
    | none => exact hq _ _ hc
    | some p => exact spot_none hc
  exact (World.cell?_of_block (w := W) (a := a) (Below.heap_setCell _ _ _ _ hne)).trans hc

/-- A slice. -/
def SlV (v : Value) : Prop := ∃ A n c, v = .slice A n c
theorem Pv.slv {W : World} {v : Value} {l : List Rat} (h : Pv W v l) : SlV v := by obtain ⟨A, c, hv, -⟩ := h; exact ⟨A, _, c, hv⟩
/-- A row of the call's own that holds slices of fractions. -/
def RowP (W : World) (B : Nat) (v : Value) (vs : List Value) : Prop :=
  (v = .slice none 0 0 ∧ vs = []) ∨ ∃ g cap cur, v = .slice (some ⟨g, 0, none⟩) vs.length cap ∧ B ≤ g ∧ W.heap[g]? = some (.cells cur 119 (0, 0)) ∧ vs.length ≤ cap ∧ cap ≤ maxLen ∧ cur.size = cap ∧ cur.toList.take vs.length = vs ∧ ∀ u ∈ cur.toList, SlV u
theorem RowP.nil (W : World) (B : Nat) : RowP W B (.slice none 0 0) [] := .inl ⟨rfl, rfl⟩
theorem RowP.lt {W : World} {B : Nat} {v : Value} {vs : List Value} (h : RowP W B v vs) {k : Nat} (hk : v.ownBlock = some k) : B ≤ k ∧ k < W.heap.size := by
  rcases h with ⟨rfl, -⟩ | ⟨g, cap, cur, rfl, hB, hg, -⟩
  · cases hk
  · obtain rfl : g = k := by simpa [Value.ownBlock] using hk
    exact ⟨hB, (Array.getElem?_eq_some_iff.1 hg).1⟩
theorem RowP.kept {W W' : World} {B : Nat} {v : Value} {vs : List Value} {row : Option Nat} (h : RowP W B v vs) (hg : W.grownBy W' row) (hr : v.ownBlock = none ∨ v.ownBlock ≠ row) : RowP W' B v vs := by
  rcases h with h | ⟨g, cap, cur, rfl, hB, hgb, h1⟩
  · exact .inl h
  · refine .inr ⟨g, cap, cur, rfl, hB, (hg.block g (Array.getElem?_eq_some_iff.1 hgb).1 (fun e => ?_)).trans hgb, h1⟩
    rcases hr with h2 | h2
    · cases h2
    · exact h2 e
theorem RowP.ne {W : World} {B : Nat} {v : Value} {vs : List Value} (h : RowP W B v vs) {j : Nat} {o : Obj} (hj : W.heap[j]? = some o) (hno : ∀ cur, o ≠ .cells cur 119 (0, 0)) : v.ownBlock = none ∨ v.ownBlock ≠ some j := by
  rcases h with ⟨rfl, -⟩ | ⟨g, cap, cur, rfl, hB, hgb, h1⟩
  · exact .inl rfl
  · refine .inr fun e => ?_
    obtain rfl : g = j := by simpa [Value.ownBlock] using e
    rw [hgb] at hj; cases hj; exact hno cur rfl
theorem RowP.noStr {W : World} {B : Nat} {v : Value} {vs : List Value} (h : RowP W B v vs) {k : Nat} (hk : v.ownBlock = some k) : NoStr W k := by
  rcases h with ⟨rfl, -⟩ | ⟨g, cap, cur, rfl, hB, hgb, h1⟩
  · cases hk
  · obtain rfl : g = k := by simpa [Value.ownBlock] using hk
    intro j s hc
    have hc' : cur[j]? = some (.string s) := by simpa [World.cell?, hgb] using hc
    obtain ⟨A, n, c, e⟩ := h1.2.2.2.2 (.string s) (Array.mem_toList_iff.2 (Array.mem_of_getElem? hc'))
    cases e
theorem Tryz.infoP : (Tryz.prog.info? 119).map (fun i => (i.zero, i.size, i.bytes)) = some (some (.slice none 0 0), 1, 24) := by kernel_rfl

theorem zero_slv {k : Nat} {u : Value} (h : u ∈ (Builtin.zeroCells (Value.slice none 0 0).cells k).toList) : SlV u := by
  have : u = .slice none 0 0 := by
    simp [Builtin.zeroCells, Value.cells] at h
    obtain ⟨a, -, h⟩ := h
    rw [Nat.mod_one] at h
    exact h.symm
  subst this
  exact ⟨_, _, _, rfl⟩
theorem run_app_p (t ty : TypeId) (ht : Tryz.prog.underlying t = some (.slice 119)) {W : World} {B : Nat} {v u : Value} {vs : List Value} (h : RowP W B v vs) (hu : SlV u) (a : Addr) (hn : W.cell? a = some u) (hl : vs.length ≤ 1000) (hB : B ≤ W.heap.size) :
    ∃ v' W', (Builtin.append_ #[t, t] ty #[v, .slice (some a) 1 1]).run Tryz.prog W = .ok v' W' ∧ RowP W' B v' (vs ++ [u]) ∧ W.grownBy W' v.ownBlock := by
  obtain ⟨i0, hi, hz0, hz1, hz2⟩ := info_parts Tryz.infoP
  have h1c : ∀ x ∈ [u], x.oneCell' = true := fun x hx => by
    obtain ⟨A, n, c, rfl⟩ := hu
    rw [List.mem_singleton] at hx; subst hx; rfl
  have hnews : ∀ j x, [u][j]? = some x → W.cell? (a.add j) = some x := fun j x hx => by
    cases j with
    | zero =>
      have : u = x := by simpa using hx
      subst this
      have e : a.add 0 = a := by obtain ⟨b, o, p⟩ := a; simp [Addr.add]
      rw [e]; exact hn
    | succ j => simp at hx
  have hml : vs.length + 1 ≤ maxLen := by unfold maxLen; omega
  have grown : ∀ (old : Nat) (row : Option Nat), (∀ x ∈ vs, SlV x) →
      RowP (W.drew.alloc (.cells (vs.toArray ++ [u].toArray ++ Builtin.zeroCells (Value.slice none 0 0).cells (grownCap W (vs.length + 1) old 119 - (vs.length + 1))) 119)) B (.slice (some ⟨W.heap.size, 0, none⟩) (vs.length + 1) (grownCap W (vs.length + 1) old 119)) (vs ++ [u]) ∧
      W.grownBy (W.drew.alloc (.cells (vs.toArray ++ [u].toArray ++ Builtin.zeroCells (Value.slice none 0 0).cells (grownCap W (vs.length + 1) old 119 - (vs.length + 1))) 119)) row := by
    intro old row hvs
    have hge := grownCap_ge W (vs.length + 1) old 119
    have hcm : grownCap W (vs.length + 1) old 119 ≤ maxLen := grownCap_le_maxLen W (vs.length + 1) old 119 hml
    have hlen : (vs ++ [u]).length = vs.length + 1 := by simp
    refine ⟨.inr ⟨W.heap.size, _, _, by rw [hlen], hB, heap_alloc_new W.drew _, by rw [hlen]; exact hge, hcm, ?_, ?_, ?_⟩, ⟨rfl, rfl, rfl, by simp, fun k hk _ => Go.heap_alloc_old W.drew _ hk⟩⟩
    · simp only [Array.size_append, List.size_toArray, size_zeroCells]
      show vs.length + 1 + _ * 1 = _
      omega
    · simp only [Array.toList_append]
      rw [← hlen]
      exact List.take_left
    · intro x hx
      simp only [Array.toList_append, List.mem_append] at hx
      rcases hx with (hx | hx) | hx
      · exact hvs x hx
      · have : x = u := by simpa using hx
        subst this; exact hu
      · exact zero_slv hx
  rcases h with ⟨rfl, rfl⟩ | ⟨g, cap, cur, rfl, hBg, hg, hnc, hcm, hcs, htake, hall⟩
  · have hr := run_append_nil (P := Tryz.prog) W t ty 119 i0 _ ht hi hz0 a 1 1 [u] (by rw [hz1]; rfl) hnews (by omega) (by omega) (by rw [hz2]; omega)
    have hgr := grown 0 (Value.ownBlock (.slice none 0 0)) (fun x hx => by cases hx)
    simp only [List.length_nil, Nat.zero_add, List.nil_append, Array.empty_append] at hgr ⊢
    exact ⟨_, _, hr, hgr.1, hgr.2⟩
  · have hvs : ∀ x ∈ vs, SlV x := fun x hx => hall x (List.mem_of_mem_take (by rw [htake]; exact hx))
    by_cases hroom : vs.length + 1 ≤ cap
    · have hr := run_append_room (P := Tryz.prog) W t ty 119 i0 ht hi g vs.length cap cur hg a 1 1 [u] (by rw [hz1]; rfl) hnews h1c hroom (by rw [hz1, hcs]; simp; omega)
      rw [hz1, Nat.mul_one] at hr
      refine ⟨_, _, hr, .inr ⟨g, cap, _, by simp, hBg, setRow_heap W g cur _ 119 _ hg, by simp; omega, hcm, ?_, ?_, ?_⟩, ⟨rfl, rfl, rfl, by simp, fun k _ hk => setRow_other W g k _ (fun e => hk (by simp [Value.ownBlock, e]))⟩⟩
      · simp only [List.size_toArray, List.length_append, List.length_take, List.length_drop, Array.length_toList, List.length_singleton]
        omega
      · rw [htake, List.toList_toArray]
        exact List.take_left
      · intro x hx
        simp only [List.mem_append] at hx
        rcases hx with (hx | hx) | hx
        · exact hall x (List.mem_of_mem_take hx)
        · have : x = u := by simpa using hx
          subst this; exact hu
        · exact hall x (List.mem_of_mem_drop hx)
    · have holds : ∀ j x, vs[j]? = some x → W.cell? ((⟨g, 0, none⟩ : Addr).add j) = some x := fun j x hx => by
        have hj : j < vs.length := (List.getElem?_eq_some_iff.1 hx).1
        rw [← htake, List.getElem?_take_of_lt hj] at hx
        have e : (⟨g, 0, none⟩ : Addr).add j = ⟨g, j, none⟩ := by simp [Addr.add]; omega
        rw [e]
        simpa [World.cell?, hg] using hx
      have hr := run_append_grow (P := Tryz.prog) W t ty 119 i0 _ ht hi hz0 ⟨g, 0, none⟩ vs.length cap vs (by rw [hz1]; omega) holds a 1 1 [u] (by rw [hz1]; rfl) hnews (by omega) (by omega) (by rw [hz2]; exact growslice_fits (by omega) (by omega))
      have hgr := grown cap (Value.ownBlock (.slice (some ⟨g, 0, none⟩) vs.length cap)) hvs
      exact ⟨_, _, hr, hgr.1, hgr.2⟩

end Go.Proofs.YtffndcjmabjhiaaGreatDoor

namespace Go.Proofs.YtffndcjmabjhiaaGreatDoor
open Go.RowKit Num
open Go.Shelf
attribute [local go_sem] Oper.semAt_some

/-- The length of a slice. -/
def lenV : Value → Nat
  | .slice _ n _ => n
  | _ => 0
theorem Pv.lenV {w : World} {v : Value} {l : List Rat} (h : Pv w v l) : lenV v = l.length := by obtain ⟨A, c, rfl, -⟩ := h; rfl
theorem size_fit {z s : Rat} (hz : fitQ z) (h : sizeO z = some s) : fitQ s := by
  unfold sizeO at h
  split at h
  · exact subQ_fit h
  · rw [← Option.some.inj h]; exact hz
theorem lastC_nz : fitQ (lastC []) := fit_zero
set_option maxHeartbeats 4000000 in
set_option maxRecDepth 100000 in
theorem sturm1_in (n : Nat) (hn : 1 ≤ n) (lp Bp : Nat) (v : Value) (p : List Rat) (ls : List (List Rat)) (J : List (Value × List Rat) → World → Prop)
    (hJL : ∀ pre W, J pre W → Laid W) (hJB : ∀ pre W W', J pre W → Below W.heap.size W W' → J pre W')
    (hY : ∀ pre v l W, J pre W → Pv W v l → pre.length < 14 → YieldAt Fence.wide (n - 1) Tryz.prog lp #[v] W fun e W' => e = .returned (.bool true) ∧ J (pre ++ [(v, l)]) W' ∧ SK W W')
    (W : World) (hBp : W.cell? ⟨Bp, 0, none⟩ = some v) (hv : Pv W v p) (hp : p.length ≤ 13) (hs : sturmO p = some ls) (h0 : J [] W) :
    CallsIn Fence.wide n Tryz.prog 230 #[.func (.yield lp) #[] #[], .pointer (some ⟨Bp, 0, none⟩)] W fun e W' => (∃ u, e = .returned u) ∧ ∃ pre : List (Value × List Rat), pre.map Prod.snd = ls ∧ J pre W' := by
  obtain ⟨⟨l0, m0⟩, hs1, hs2⟩ := Option.bind_eq_some_iff.1 hs
  obtain ⟨d, g, ⟨q, qr⟩, h1, h2, h3, h4, h5⟩ := start_parts hs1
  obtain rfl : q = l0 := h5.symm
  have hs2' : chainO 14 q m0 = some ls := hs2
  have hql : q.length ≤ 13 := Nat.le_trans (byO_len h3) hp
  have hdl : d.length ≤ 13 := by rw [(tab_some h1).1]; omega
  have hml : m0.length ≤ 13 := by have := (tab_some h4).1; dsimp only at this; omega
  have HS := Lib.hid hs2'
  have HV := Lib.hid hv
  have HL0 := Lib.hid (hJL _ _ h0)
  have C1 := Lib.hid (fun (W' : World) (hb : Below W.heap.size W W') => pderiv_any W' (HV.out.below hb) h1 (HL0.out.below hb))
  have C2 := Lib.hid (fun (W' : World) (x : Value) (hb : Below W.heap.size W W') (hx : Pv W' x d) => pgcd_any W' (HV.out.below hb) hx hp hdl h2 (HL0.out.below hb))
  have C3 := Lib.hid (fun (W' : World) (x : Value) (hb : Below W.heap.size W W') (hx : Pv W' x g) => pby_any W' (HV.out.below hb) hx hp h3 (HL0.out.below hb))
  have C4 := Lib.hid (fun (W' : World) (x : Value) (hb : Below W.heap.size W W') (hx : Pv W' x q) => pderiv_any W' hx h4 (HL0.out.below hb))
  have hfq := field_quo
  have hfr := field_rest
  have HY := Lib.hid hY
  have HJL := Lib.hid hJL
  have HJB := Lib.hid hJB
  have HJ0 := Lib.hid h0
  have cp := hBp
  have cp' : W.drew.cell? ⟨Bp, 0, none⟩ = some v := hBp
  have hZ : Below W.heap.size W W.drew := (Below.refl _ _).drew
  have hmixed : Tryz.prog.follows .mixedOrders = true := by kernel_rfl
  clear h5 hs hs1 hs2 hs2' h1 h2 h3 h4 hY hJL hJB hv h0 hBp
  refine callsIn_of_wp Tryz.func230 rfl trivial ?_ rfl
  simp only [Tryz.ntmps230, List.size_toArray, List.length_cons, List.length_nil, Nat.reduceAdd, Nat.reduceSub, Array.replicate_succ, Array.replicate_zero, List.push_toArray, List.append_toArray, List.nil_append, List.cons_append]
  gi_wp2_with fail
  refine wpIn_cut (fun a' w' => ∃ xd xg xq xr, a' = { tmps := #[.func (.yield lp) #[] #[], .pointer (some ⟨Bp, 0, none⟩), undef, xq, undef, undef, undef, v, v, v, xd, xg, .agg #[xq, xr], xq, undef, undef, undef, undef, undef, undef, undef, undef, undef, undef, undef, undef, undef, undef, undef, undef, undef, undef, undef, undef, undef, undef, undef, undef, undef, undef, undef, undef, undef, undef], defers := [] } ∧ Pv w' xq q ∧ Below W.heap.size W w') ?_ ?_
  · gi_region_with_o (first
      | (refine ⟨trivial, ?_⟩; gi_at_call 70; (with_reducible refine (callsIn_wide.2 (C1.out _ hZ)).mono ?_); rintro e w1 ⟨xd, rfl, hxd, hb⟩; have hZ := below_up hZ hb; have cp' := (hb.cell (cell_lt cp')).trans cp')
      | (refine ⟨trivial, ?_⟩; gi_at_call 73; (with_reducible refine (callsIn_wide.2 (C2.out _ _ hZ hxd)).mono ?_); rintro e w1 ⟨xg, rfl, hxg, hb⟩; have hZ := below_up hZ hb; have cp' := (hb.cell (cell_lt cp')).trans cp')
      | (refine ⟨trivial, ?_⟩; gi_at_call 76; (with_reducible refine (callsIn_wide.2 (C3.out _ _ hZ hxg)).mono ?_); rintro e w1 ⟨xq, xr, rfl, hxq, hxr, hb⟩; have hZ := below_up hZ hb; have cp' := (hb.cell (cell_lt cp')).trans cp'))
    all_goals exact ⟨_, _, _, _, rfl, hxq, hZ⟩
  rintro a' W1 ⟨xd, xg, xq, xr, rfl, hxq, hZ⟩
  have HXQ := Lib.hid hxq
  obtain ⟨A1, c1, rfl, -, -, -⟩ := hxq
  clear cp'
  gi_wp2_with (refine ⟨trivial, ?_⟩; gi_at_call 70; (with_reducible refine (callsIn_wide.2 (C4.out _ _ hZ HXQ.out)).mono ?_); rintro e w1 ⟨xm, rfl, hxm, hb⟩)
  have hJ1 := HJB.out _ _ _ HJ0.out (below_up hZ hb)
  clear C1 C2 C3 C4 HV cp
  gi_loopw [3, 4] (fun s3 s4 wr => ∃ (pre : List (Value × List Rat)) (l m : List Rat) (k : Nat) (tl : List (List Rat)), chainO k l m = some tl ∧ pre.map Prod.snd ++ tl = ls ∧ pre.length + k = 14 ∧ l.length ≤ 13 ∧ m.length ≤ 13 ∧ Pv wr s3 l ∧ Pv wr s4 m ∧ J pre wr) (fun _ s4 _ => lenV s4)
  case atStart => exact ⟨[], q, m0, 14, ls, HS.out, rfl, rfl, hql, hml, HXQ.out.below hb, hxm, hJ1⟩
  case round =>
    obtain ⟨pre, l, m, k, tl, hch, hpre, hlen, hl13, hm13, hPl, hPm, hJ⟩ := hrel
    obtain ⟨k', rfl⟩ : ∃ k', k = k' + 1 := by
      cases k with
      | zero => exact absurd hch (by simp [chainO])
      | succ k' => exact ⟨k', rfl⟩
    obtain ⟨fn, tmps, assign, body, hyy, hR⟩ := HY.out pre u3 l wr hJ hPl (by omega)
    have HPL := Lib.hid hPl
    have HPM := Lib.hid hPm
    obtain ⟨Al, cl, rfl, -, -, -⟩ := hPl
    obtain ⟨Am, cm, rfl, -, -, -⟩ := hPm
    by_cases hm0 : m = []
    · subst hm0
      have HE : Hid ((pre ++ [((Value.slice Al l.length cl), l)]).map Prod.snd = ls) := Lib.hid (by rw [List.map_append, ← hpre, chain_end hch]; rfl)
      clear hch hpre hJ HY HL0 HS
      gi_wp2
      refine hR.mono ?_
      rintro e W3 ⟨rfl, hJ3, hk3⟩
      gi_wp2
      go_end0
      exact ⟨⟨_, rfl⟩, _, HE.out, hJ3⟩
    · obtain ⟨r, t, h1, h2, h3⟩ := chain_step hch hm0
      obtain ⟨qq, ss, h4, h5⟩ := next_parts h1
      have hbl := (by_len h4).2
      have hmi : (m.length : Int) > 0 := by omega
      have HE : Hid ((pre ++ [((Value.slice Al l.length cl), l)]).map Prod.snd ++ t = ls) := Lib.hid (by rw [List.map_append, ← hpre, h3]; simp)
      have H2 := Lib.hid h2
      have hlen' : (pre ++ [((Value.slice Al l.length cl), l)]).length + k' = 14 := by simp; omega
      have HLN := Lib.hid hlen'
      have HBY := Lib.hid h4
      clear hch hpre hJ HY HL0 HS h1 h2 h3 h4 hlen hlen'
      gi_wp2
      refine hR.mono ?_
      rintro e W3 ⟨rfl, hJ3, hk3⟩
      have hL3 := HJL.out _ _ hJ3
      have HL3 := Lib.hid hL3
      have C5 := Lib.hid (pby_any W3 (HPL.out.sk hk3) (HPM.out.sk hk3) hl13 HBY.out hL3)
      have HJ3 := Lib.hid hJ3
      have HK3 := Lib.hid hk3
      clear hL3 hJ3 hk3 hR hyy
      rcases h5 with ⟨rfl, rfl⟩ | ⟨hs0, z, hz, ho⟩
      · gi_wp2_with (refine ⟨trivial, ?_⟩; gi_at_call 76; (with_reducible refine (callsIn_wide.2 C5.out).mono ?_); rintro e w4 ⟨xa, xb, rfl, hxa, hxb, hb⟩; have HXB := Lib.hid hxb; obtain ⟨Ab, cb, rfl, -, -, -⟩ := hxb)
        go_roundw
        case rel => exact ⟨_, m, [], k', t, H2.out, HE.out, HLN.out, hm13, by simp, (HPM.out.sk HK3.out).below hb, HXB.out, HJB.out _ _ _ HJ3.out hb⟩
        case measure => simp only [lenV]; omega
      · have hss : 0 < ss.length := List.length_pos_iff.2 hs0
        have hsi : (ss.length : Int) > 0 := by omega
        have hbi : ss.length ≤ 13 := by omega
        have C6 := Lib.hid (fun (W : World) (x : Value) (hx : Pv W x ss) => lead_any W hx hss)
        have CS := Lib.hid (fun (hf : fitQ (lastC ss)) (W : World) (hL : Laid W) => sign_any hf W hL)
        have CO := Lib.hid (fun (W : World) (x : Value) (hx : Pv W x ss) (hf : fitQ z) (hL : Laid W) => pover_any W hx hf ho hL)
        have HSF := Lib.hid (fun (hf : fitQ (lastC ss)) => size_fit hf hz)
        have hrl : r.length = ss.length := (tab_some ho).1
        have hlast : cf ss (ss.length - 1) = lastC ss := rfl
        rw [hlast] at C6
        have HZ := Lib.hid hz
        have HC := Lib.hid hlast
        clear hs0 ho hlast hz
        generalize lastC ss = c0 at *
        generalize hsn : sgnQ c0 = sn at *
        by_cases hsg : 0 < sn
        · have hz2 : subQ 0 c0 = some z := by have := HZ.out; unfold sizeO at this; rwa [hsn, if_pos hsg] at this
          have hsg2 : sn > 0 := hsg
          have HSB := Lib.hid hz2
          have CW := Lib.hid (fun (W : World) (hL : Laid W) => whole_any 0 (by decide) (by decide) W hL)
          have hw0 : (((0 : Int)) : Rat) = 0 := rfl
          rw [hw0] at CW
          clear hsn HZ hsg hw0 hz2
          gi_wp2_with (first
            | (refine ⟨trivial, ?_⟩; gi_at_call 76; (with_reducible refine (callsIn_wide.2 C5.out).mono ?_); rintro e w4 ⟨xa, xb, rfl, hxa, hxb, hb⟩; have HXB := Lib.hid hxb; have HFC : Hid (fitQ c0) := Lib.hid (HC.out ▸ hxb.fit (ss.length - 1)); obtain ⟨Ab, cb, rfl, -, -, -⟩ := hxb)
            | (refine ⟨trivial, ?_⟩; gi_at_call 171; (with_reducible refine (callsIn_wide.2 (C6.out _ _ HXB.out)).mono ?_); rintro e w5 ⟨rfl, hb5⟩; have hB5 := below_up hb hb5; have Z5 := Blk.new w5 29 [.string (numT (some c0)), .string (denT (some c0))]; have hB6 := below_up hB5 (below1 w5 (.cells #[.string (numT (some c0)), .string (denT (some c0))] 29)))
            | (refine ⟨trivial, ?_⟩; gi_at_call 142; (with_reducible refine (callsIn_wide.2 (CS.out HFC.out _ (HL3.out.below hB6))).mono ?_); rintro e w6 ⟨rfl, hb6⟩; have hB7 := below_up hB6 hb6; have Z6 := Z5.below hb6; have z0 := Z6.cell 0 (v := .string (numT (some c0))) rfl; have z1 := Z6.cell 1 (v := .string (denT (some c0))) rfl))
          have hZ7 : Below w6.heap.size w6 w6.drew := (Below.refl _ _).drew
          have Z7 := Z6.below hZ7
          have z0 := Z7.cell 0 (v := .string (numT (some c0))) rfl
          have z1 := Z7.cell 1 (v := .string (denT (some c0))) rfl
          have f0 := Z7.frozen 0
          have f1 := Z7.frozen 1
          gi_region_with_o (first
            | (refine ⟨trivial, ?_⟩; gi_at_call 62; (with_reducible refine (callsIn_wide.2 (CW.out _ (HL3.out.below (below_up hB7 hZ7)))).mono ?_); rintro e wN ⟨rfl, hbN⟩; have hZ7 := below_up hZ7 hbN; have Z7 := Z7.below hbN; have z0 := Z7.cell 0 (v := .string (numT (some c0))) rfl; have z1 := Z7.cell 1 (v := .string (denT (some c0))) rfl; have f0 := Z7.frozen 0; have f1 := Z7.frozen 1)
            | (refine ⟨trivial, ?_⟩; gi_at_call 58; (with_reducible refine (callsIn_wide.2 (psub_c fit_zero HFC.out HSB.out _ (HL3.out.below (below_up hB7 hZ7)))).mono ?_); rintro e wN ⟨rfl, hbN⟩; have hZ7 := below_up hZ7 hbN; have Z7 := Z7.below hbN; have z0 := Z7.cell 0 (v := .string (numT (some c0))) rfl; have z1 := Z7.cell 1 (v := .string (denT (some c0))) rfl; have f0 := Z7.frozen 0; have f1 := Z7.frozen 1))
          all_goals have ZF := (Z7.set 0 (.string (numT (some z)))).set 1 (.string (denT (some z)))
          all_goals have e0 := ZF.cell 0 (v := .string (numT (some z))) rfl
          all_goals have e1 := ZF.cell 1 (v := .string (denT (some z))) rfl
          all_goals have hsz5 := hB5.size
          all_goals have hsz5' := hb5.size
          all_goals have hB8 := below_new2 (u := .string (numT (some z))) (v := .string (denT (some z))) (below_up hB7 hZ7) hsz5
          all_goals have hB9 := below_new2 (u := .string (numT (some z))) (v := .string (denT (some z))) (below_up (below_up (below_up hb5 (below1 _ _)) hb6) hZ7) hsz5'
          all_goals gi_wp2_with (refine ⟨trivial, ?_⟩; gi_at_call 231; (with_reducible refine (callsIn_wide.2 (CO.out _ _ (HXB.out.below hB9) (HSF.out HFC.out) (HL3.out.below hB8))).mono ?_); rintro e w8 ⟨xr, rfl, hxr, hb8⟩)
          all_goals go_roundw
          all_goals first
            | exact ⟨_, m, r, k', t, H2.out, HE.out, HLN.out, hm13, by omega, (HPM.out.sk HK3.out).below (below_up hB8 hb8), hxr, HJB.out _ _ _ HJ3.out (below_up hB8 hb8)⟩
            | (have hlv := hxr.lenV; simp only [lenV] at hlv ⊢; omega)
        · have hz2 : c0 = z := by have := HZ.out; unfold sizeO at this; rw [hsn, if_neg hsg] at this; exact Option.some.inj this
          subst hz2
          have hsg2 : ¬ (sn > 0) := hsg
          clear hsn HZ hsg
          gi_wp2_with (first
            | (refine ⟨trivial, ?_⟩; gi_at_call 76; (with_reducible refine (callsIn_wide.2 C5.out).mono ?_); rintro e w4 ⟨xa, xb, rfl, hxa, hxb, hb⟩; have HXB := Lib.hid hxb; have HFC : Hid (fitQ c0) := Lib.hid (HC.out ▸ hxb.fit (ss.length - 1)); obtain ⟨Ab, cb, rfl, -, -, -⟩ := hxb)
            | (refine ⟨trivial, ?_⟩; gi_at_call 171; (with_reducible refine (callsIn_wide.2 (C6.out _ _ HXB.out)).mono ?_); rintro e w5 ⟨rfl, hb5⟩; have hB5 := below_up hb hb5; have Z5 := Blk.new w5 29 [.string (numT (some c0)), .string (denT (some c0))]; have hB6 := below_up hB5 (below1 w5 (.cells #[.string (numT (some c0)), .string (denT (some c0))] 29)))
            | (refine ⟨trivial, ?_⟩; gi_at_call 142; (with_reducible refine (callsIn_wide.2 (CS.out HFC.out _ (HL3.out.below hB6))).mono ?_); rintro e w6 ⟨rfl, hb6⟩; have hB7 := below_up hB6 hb6; have Z6 := Z5.below hb6; have z0 := Z6.cell 0 (v := .string (numT (some c0))) rfl; have z1 := Z6.cell 1 (v := .string (denT (some c0))) rfl)
            | (refine ⟨trivial, ?_⟩; gi_at_call 231; (with_reducible refine (callsIn_wide.2 (CO.out _ _ (HXB.out.below (below_up (below_up hb5 (below1 _ _)) hb6)) (HSF.out HFC.out) (HL3.out.below hB7))).mono ?_); rintro e w8 ⟨xr, rfl, hxr, hb8⟩))
          go_roundw
          case rel => exact ⟨_, m, r, k', t, H2.out, HE.out, HLN.out, hm13, by omega, (HPM.out.sk HK3.out).below (below_up hB7 hb8), hxr, HJB.out _ _ _ HJ3.out (below_up hB7 hb8)⟩
          case measure => have hlv := hxr.lenV; simp only [lenV] at hlv ⊢; omega

end Go.Proofs.YtffndcjmabjhiaaGreatDoor
