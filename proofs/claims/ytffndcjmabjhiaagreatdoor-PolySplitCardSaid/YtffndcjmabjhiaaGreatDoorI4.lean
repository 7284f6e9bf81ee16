/- slices.Backward over numbers, and a loop over it: what a loop's body must keep, and what the loop then leaves. Conditions: none. -/
import Derived.Test.YtffndcjmabjhiaaGreatDoorK1
import Derived.RangeFuncNested
import Derived.RangeFuncBound
import Derived.RangeFuncCalls
import Derived.RangeFuncLeaves
import Derived.Shelf.RegionOpen
import Derived.OwnWalkIn
import Derived.TacticsInMore
import Derived.LoopNIn
import Derived.LoopIn
namespace Go.Proofs.YtffndcjmabjhiaaGreatDoor
open Go.RowKit Num
open Go.Shelf
attribute [local go_sem] Oper.semAt_some

/-- Only blocks of X may have turned; what else was there lies as it lay. -/
structure Turn (X : List Nat) (W W' : World) : Prop where
  os : W'.os = W.os
  tape : W'.tape = W.tape
  output : W'.output = W.output
  size : W.heap.size ≤ W'.heap.size
  block : ∀ k, k < W.heap.size → k ∉ X → W'.heap[k]? = W.heap[k]?
theorem Turn.refl (X : List Nat) (W : World) : Turn X W W := ⟨rfl, rfl, rfl, Nat.le_refl _, fun _ _ _ => rfl⟩
theorem Turn.trans {X : List Nat} {A B C : World} (h : Turn X A B) (k : Turn X B C) : Turn X A C :=
  ⟨k.os.trans h.os, k.tape.trans h.tape, k.output.trans h.output, Nat.le_trans h.size k.size, fun i hi hX => (k.block i (Nat.lt_of_lt_of_le hi h.size) hX).trans (h.block i hi hX)⟩
theorem Turn.of_below {X : List Nat} {A B : World} (h : Below A.heap.size A B) : Turn X A B := ⟨h.os, h.tape, h.output, h.size, fun i hi _ => h.block i hi⟩
theorem Turn.setCell {X : List Nat} (W : World) (b o : Nat) (v : Value) (hb : b ∈ X) : Turn X W (W.setCell ⟨b, o, none⟩ v) :=
  ⟨rfl, rfl, rfl, by simp [World.setCell], fun k _ hX => Below.heap_setCell _ _ _ _ (fun e => hX (by rw [e]; exact hb))⟩
theorem Turn.below {X : List Nat} {n : Nat} {w W W' : World} (h : Turn X W W') (hw : Below n w W) (hn : n ≤ w.heap.size) (hX : ∀ k ∈ X, n ≤ k) : Below n w W' :=
  hw.trans ⟨h.os, h.tape, h.output, h.size, fun k hk => h.block k (Nat.lt_of_lt_of_le hk (Nat.le_trans hn hw.size)) (fun hx => by have := hX k hx; omega)⟩
theorem Turn.cell {X : List Nat} {W W' : World} (h : Turn X W W') {a : Addr} {v : Value} (hc : W.cell? a = some v) (ha : a.block ∉ X) : W'.cell? a = some v :=
  (World.cell?_of_block (w := W) (h.block a.block (cell_lt hc) ha)).trans hc
theorem Turn.mono {X Y : List Nat} {W W' : World} (h : Turn X W W') (hs : ∀ k ∈ X, k ∈ Y) : Turn Y W W' := ⟨h.os, h.tape, h.output, h.size, fun k hk hY => h.block k hk (fun hx => hY (hs k hx))⟩

/-- What speaks of cells alone. -/
def CellsOnly {β : Type} (I : β → World → Prop) : Prop :=
  ∀ s W W', I s W → W.heap.size ≤ W'.heap.size → (∀ (k : Nat) (o : Obj), W.heap[k]? = some o → o.isCells = true → W'.heap[k]? = some o) → I s W'
theorem cellsOnly_cell {W W' : World} (h : ∀ (k : Nat) (o : Obj), W.heap[k]? = some o → o.isCells = true → W'.heap[k]? = some o) {a : Addr} {v : Value} (hc : W.cell? a = some v) : W'.cell? a = some v := by
  obtain ⟨o, ho, hcl⟩ := cells_of_cell hc
  exact (World.cell?_of_block (w := W) ((h _ _ ho hcl).trans ho.symm)).trans hc
theorem Rd.cellsOnly {W W' : World} (h : ∀ (k : Nat) (o : Obj), W.heap[k]? = some o → o.isCells = true → W'.heap[k]? = some o) {v : Value} {xs : List Int} (hr : Rd W v xs) : Rd W' v xs := by
  obtain ⟨A, c, hv, hc, hm, hx⟩ := hr
  refine ⟨A, c, hv, hc, hm, fun h0 => ?_⟩
  obtain ⟨b, o, hA, hx⟩ := hx h0
  exact ⟨b, o, hA, fun j hj => cellsOnly_cell h (hx j hj)⟩
theorem boxedCO {W W' : World} (h : ∀ (k : Nat) (o : Obj), W.heap[k]? = some o → o.isCells = true → W'.heap[k]? = some o) {B : Nat} {t : TypeId} {v : Value} (hb : Boxed W B t v) : Boxed W' B t v := h _ _ hb rfl
theorem CellsOnly.from {β : Type} {I : β → World → Prop} (h : CellsOnly I) (B : Nat) : OwnFrom B I := fun s W W' row hs hg hr =>
  h s W W' hs hg.size (fun k o hk ho => (hg.block k (Array.getElem?_eq_some_iff.1 hk).1 (fun e => by
    obtain ⟨_, o', ho', hc⟩ := hr k e.symm
    rw [hk] at ho'; cases ho'; rw [ho] at hc; cases hc)).trans hk)

/-- The box Bs and the block of A lie as they lay. -/
def KeepB (Bs : Nat) (Ak : Option Nat) (W W' : World) : Prop := ∀ a : Addr, (a.block = Bs ∨ Ak = some a.block) → W'.cell? a = W.cell? a
theorem keepB_t {Bs : Nat} {A : Option Nat} {W1 W2 W3 : World} (h : KeepB Bs A W1 W2) (k : KeepB Bs A W2 W3) : KeepB Bs A W1 W3 := fun a ha => (k a ha).trans (h a ha)

/-- The places of a slice of n numbers, from the last one down: k of them. -/
def down (n : Nat) : Nat → List (Fin n)
  | 0 => []
  | k + 1 => if h : k < n then down n k ++ [⟨n - 1 - k, by omega⟩] else down n k
theorem down_succ {n k : Nat} (h : k < n) : down n (k + 1) = down n k ++ [⟨n - 1 - k, by omega⟩] := by rw [down, dif_pos h]
theorem down_length {n : Nat} : ∀ {k : Nat}, k ≤ n → (down n k).length = k
  | 0, _ => rfl
  | k + 1, h => by rw [down_succ (by omega), List.length_append, down_length (by omega)]; rfl
theorem down_prefix {n : Nat} (k : Nat) : ∀ m, down n k <+: down n (k + m)
  | 0 => List.prefix_refl _
  | m + 1 => by
    refine (down_prefix k m).trans ?_
    rw [← Nat.add_assoc, down]
    split
    · exact List.prefix_append _ _
    · exact List.prefix_refl _

/-- The number at a place, 0 beyond the end; the walk's simp doesn't look into it. -/
def nth (xs : List Int) (i : Nat) : Int := xs[i]?.getD 0
abbrev encB (xs : List Int) (p : Fin xs.length) : Array Value := #[.int .i64 (p.1 : Nat), .int .i64 (nth xs p.1)]

set_option maxRecDepth 100000 in
set_option maxHeartbeats 2000000 in
theorem back1_in (n : Nat) (hn : 1 ≤ n) (l Bs : Nat) (Ak : Option Nat) (A : Option Addr) (cap : Nat) (xs : List Int) (hm : xs.length ≤ 1000000) (J Jx : List (Fin xs.length) → World → Prop)
    (hY : ∀ pre x W, J pre W → pre.length < xs.length → YieldAt Fence.wide (n - 1) Tryz.prog l (encB xs x) W fun e W' =>
      (e = .returned (.bool true) ∧ J (pre ++ [x]) W' ∧ KeepB Bs Ak W W') ∨ (e = .returned (.bool false) ∧ Jx (pre ++ [x]) W'))
    (W : World) (hBs : W.cell? ⟨Bs, 0, none⟩ = some (.slice A xs.length cap))
    (hx : 0 < xs.length → ∃ b o, A = some ⟨b, o, none⟩ ∧ Ak = some b ∧ ∀ j, j < xs.length → W.cell? ⟨b, o + j, none⟩ = some (.int .i64 (xs[j]?.getD 0))) (h0 : J [] W) :
    CallsIn Fence.wide n Tryz.prog 300 #[.func (.yield l) #[] #[], .pointer (some ⟨Bs, 0, none⟩)] W fun e W' => (∃ v, e = .returned v) ∧
      ((∃ ys, ys = down xs.length xs.length ∧ J ys W') ∨ (∃ pre, (∃ k, k ≤ xs.length ∧ pre = down xs.length k) ∧ Jx pre W')) := by
  refine callsIn_of_wp Tryz.func300 rfl trivial ?_ rfl
  simp only [Tryz.ntmps300, List.size_toArray, List.length_cons, List.length_nil, Nat.reduceAdd, Nat.reduceSub, Array.replicate_succ, Array.replicate_zero, List.push_toArray, List.append_toArray, List.nil_append, List.cons_append]
  gi_wp2
  gi_loopw [3] (fun i wr => ∃ k : Nat, k ≤ xs.length ∧ i = .int .i64 ((k : Int) - 1) ∧ J (down xs.length (xs.length - k)) wr ∧ KeepB Bs Ak W wr)
    (fun i _ => ((intOf i) + 1).toNat)
  case atStart => exact ⟨xs.length, Nat.le_refl _, rfl, by rw [Nat.sub_self]; exact h0, fun _ _ => rfl⟩
  case round =>
    obtain ⟨k, hk, rfl, hJs, hnx⟩ := hrel
    have hbs := (hnx ⟨Bs, 0, none⟩ (.inl rfl)).trans hBs
    rcases Nat.eq_zero_or_pos k with rfl | hk0
    · gi_wp2
      go_end0
      exact ⟨⟨_, rfl⟩, .inl ⟨_, by rw [Nat.sub_zero], hJs⟩⟩
    · obtain ⟨p, rfl⟩ : ∃ p, k = p + 1 := ⟨k - 1, by omega⟩
      obtain ⟨b, o, rfl, rfl, hy⟩ := hx (by omega)
      have hcell : wr.cell? ⟨b, o + p, none⟩ = some (.int .i64 (nth xs p)) := (hnx ⟨b, o + p, none⟩ (.inr rfl)).trans (hy p (by omega))
      have hd := down_succ (n := xs.length) (k := xs.length - (p + 1)) (by omega)
      rw [show xs.length - (p + 1) + 1 = xs.length - p by omega] at hd
      have hpx : (⟨xs.length - 1 - (xs.length - (p + 1)), by omega⟩ : Fin xs.length) = ⟨p, by omega⟩ := Fin.ext (by show xs.length - 1 - (xs.length - (p + 1)) = p; omega)
      rw [hpx] at hd
      obtain ⟨fn, tmps, assign, body, hyy, hR⟩ := hY _ (⟨p, by omega⟩ : Fin xs.length) wr hJs (by rw [down_length (by omega)]; omega)
      have HD := Lib.hid hd
      have HY := Lib.hid hY
      have HX := Lib.hid hx
      have HZ := Lib.hid hy
      have HB := Lib.hid hnx
      dsimp only [encB] at hyy
      clear hd hpx hY hx hy hnx
      rw [show (((p + 1 : Nat) : Int) - 1) = (p : Int) by omega]
      gi_wp2
      refine hR.mono ?_
      rintro e W3 (⟨rfl, hJ3, hk3⟩ | ⟨rfl, hJx3⟩)
      · gi_wp2
        go_roundw
        case rel => exact ⟨p, by omega, rfl, by rw [HD.out]; exact hJ3, keepB_t HB.out hk3⟩
        case measure => simp [intOf]
      · gi_wp2
        refine bodyPost_ret (results_none rfl _ _ _) rfl ?_
        exact ⟨⟨_, rfl⟩, .inr ⟨_, ⟨xs.length - p, by omega, HD.out.symm⟩, hJx3⟩⟩

/-- The block in which a slice's numbers lie. -/
def rowOf (v : Value) (xs : List Int) : Option Nat := if xs = [] then none else v.ownBlock

theorem back_stops (n : Nat) (hn : 1 ≤ n) (Bs : Nat) (v : Value) (xs : List Int) (w : World) (hBs : w.cell? ⟨Bs, 0, none⟩ = some v) (hR : Rd w v xs) :
    SeqStopsK Fence.wide n Tryz.prog 300 #[.pointer (some ⟨Bs, 0, none⟩)] (encB xs) (KeepB Bs (rowOf v xs)) (fun ys => ys = down xs.length xs.length) (fun pre => ∃ k, k ≤ xs.length ∧ pre = down xs.length k) xs.length w := fun l J Jx W hW _ _ hY h0 => by
  obtain ⟨A, c, rfl, hc, hm, hx⟩ := hR.below hW
  refine back1_in n hn l Bs _ A c xs hm J Jx hY W ((hW.cell (p := ⟨Bs, 0, none⟩) (cell_lt hBs)).trans hBs) (fun hp => ?_) h0
  obtain ⟨b, o, rfl, hy⟩ := hx hp
  refine ⟨b, o, rfl, ?_, hy⟩
  unfold rowOf
  rw [if_neg (fun e => by rw [e] at hp; simp at hp)]
  rfl

theorem Turn.rd {X : List Nat} {W W' : World} (h : Turn X W W') {v : Value} {xs : List Int} (hr : Rd W v xs) (hX : ∀ k ∈ X, rowOf v xs ≠ some k) : Rd W' v xs := by
  obtain ⟨A, c, rfl, hc, hm, hx⟩ := hr
  refine ⟨A, c, rfl, hc, hm, fun h0 => ?_⟩
  obtain ⟨b, o, rfl, hy⟩ := hx h0
  refine ⟨b, o, rfl, fun j hj => h.cell (hy j hj) (fun hb => hX b hb ?_)⟩
  unfold rowOf
  rw [if_neg (fun e => by rw [e] at h0; simp at h0)]
  rfl

theorem Rd.row_lt {w : World} {v : Value} {xs : List Int} (hR : Rd w v xs) {k : Nat} (hk : rowOf v xs = some k) : k < w.heap.size := by
  obtain ⟨A, c, rfl, hc, hm, hx⟩ := hR
  unfold rowOf at hk
  split at hk
  · cases hk
  · rename_i hne
    have hp : 0 < xs.length := List.length_pos_iff.2 hne
    obtain ⟨b, o, rfl, hy⟩ := hx hp
    have : b < w.heap.size := cell_lt (hy 0 hp)
    simp only [Value.ownBlock, Option.some.injEq] at hk
    omega

/-- What a function that has ranged over an iterator leaves: its mark is taken off. -/
theorem below_mark {w W : World} {D : Nat} {n : Nat} (h : Below n w W) (hn : n ≤ w.heap.size) (hD : n ≤ D) : Below n w (W.putObj D (.deferred none)) :=
  h.grown (grownBy_putObj' W D _) (Nat.le_trans hn h.size) (fun k e => by cases e; exact hD)
theorem cell_mark {W : World} {D : Nat} (hK : W.heap[D]? = some (.deferred (some []))) {a : Addr} {v : Value} (hc : W.cell? a = some v) : (W.putObj D (.deferred none)).cell? a = some v :=
  cell_kept hc (grownBy_putObj' W D _) (fun r e => by cases e; exact ⟨_, hK, rfl⟩)
theorem rd_mark {W : World} {D : Nat} (hK : W.heap[D]? = some (.deferred (some []))) {v : Value} {xs : List Int} (hc : Rd W v xs) : Rd (W.putObj D (.deferred none)) v xs := by
  obtain ⟨A, c, hv, h1, hm, hx⟩ := hc
  refine ⟨A, c, hv, h1, hm, fun h0 => ?_⟩
  obtain ⟨b, o, hA, hx⟩ := hx h0
  exact ⟨b, o, hA, fun j hj => cell_mark hK (hx j hj)⟩
theorem mark_set {W : World} {D : Nat} (hK : W.heap[D]? = some (.deferred (some []))) (a : Addr) (v : Value) : (W.setCell a v).heap[D]? = some (.deferred (some [])) :=
  (KeepsOthers.setCell W a v).same D _ hK rfl

/-- How a round of a loop over slices.Backward may end. -/
def roundPost {α : Type} (X : List Nat) (I : List α → World → Prop) (Ix : Code → List α → World → Prop) (xs : List α) (W : World) : Exit → Act → World → Prop
  | .normal, _, W' => Turn X W W' ∧ I xs W'
  | .ret, _, W' => Turn X W W' ∧ Ix .ret xs W'
  | _, _, _ => False

def roundPostT {α : Type} (X : List Nat) (w : World) (I : List α → World → Prop) (Ix : Code → List α → World → Prop) (xs : List α) (W : World) : Exit → Act → World → Prop
  | .normal, _, W' => Turn X w W' ∧ KeepsFrom w.heap.size W W' ∧ I xs W'
  | .ret, _, W' => Turn X w W' ∧ KeepsFrom w.heap.size W W' ∧ Ix .ret xs W'
  | _, _, _ => False

/-- A loop over slices.Backward: X: the boxes that its body may write. -/
theorem range_backT {g : Operand} {ps : Array Tmp} {assign body : Code} {Q : Exit → Act → World → Prop} {a : Act} {w : World} {n : Nat} (hn : 3 ≤ n) {Bs : Nat} {v : Value} {xs : List Int}
    (hg : a.eval g = .func (.func 300) #[] #[.pointer (some ⟨Bs, 0, none⟩)]) (hBs : w.cell? ⟨Bs, 0, none⟩ = some v) (hR : Rd w v xs) (hps : ps.size = 2)
    (w0 : World) (hw0 : Below w0.heap.size w0 w) (X : List Nat) (hX : ∀ k ∈ X, w0.heap.size ≤ k ∧ k < w.heap.size ∧ k ≠ Bs ∧ rowOf v xs ≠ some k)
    (I : List (Fin xs.length) → World → Prop) (Ix : Code → List (Fin xs.length) → World → Prop) (hI : CellsOnly I) (hIx : ∀ c, CellsOnly (Ix c)) (h0 : I [] w) (a₁ : Fin xs.length → Act)
    (hassign : ∀ (l : Nat) (x : Fin xs.length) (W : World) (K : Act → World → Prop), K (a₁ x) W →
      assign.wpIn (Fence.wide.inRound l) (n - 1 - 1) Tryz.prog (Exit.then K (fun _ _ _ => False)) { tmps := (ps.zip (encB xs x)).foldl (fun t (p, v) => t.setIfInBounds p v) a.tmps, defers := [] } W)
    (hbody : ∀ (l : Nat) (pre : List (Fin xs.length)) (x : Fin xs.length) (W : World), I pre W → Below w0.heap.size w0 W → Turn X w W → pre.length < xs.length → body.wpIn (Fence.wide.inRound l) (n - 1 - 1) Tryz.prog (roundPostT X w I Ix (pre ++ [x]) W) (a₁ x) W)
    (hdone : ∀ (D : Nat) (W : World), w.heap.size ≤ D → I (down xs.length xs.length) W → Below w0.heap.size w0 W → Turn X w W → W.heap[D]? = some (.deferred (some [])) → Q .normal { a with defers := { target := .collected D, args := #[] } :: a.defers } W)
    (hstop : ∀ (D : Nat) (c : Code) (pre : List (Fin xs.length)) (W : World), w.heap.size ≤ D → (∃ k, k ≤ xs.length ∧ pre = down xs.length k) → Ix c pre W → Below w0.heap.size w0 W → W.heap[D]? = some (.deferred (some [])) → c.wpIn Fence.wide n Tryz.prog Q { a with defers := { target := .collected D, args := #[] } :: a.defers } W) :
    (Code.rangeFunc g ps assign body).wpIn Fence.wide n Tryz.prog Q a w := by
  have hT : OwnFrom w.heap.size (fun (_ : List (Fin xs.length)) W => Turn X w W) := fun s W W' row hs hg' hr =>
    ⟨hg'.os.trans hs.os, hg'.tape.trans hs.tape, hg'.output.trans hs.output, Nat.le_trans hs.size hg'.size, fun k hk hkX =>
      (hg'.block k (Nat.lt_of_lt_of_le hk hs.size) (fun e => by have := (hr k e.symm).1; omega)).trans (hs.block k hk hkX)⟩
  have hb0 : ∀ W, Turn X w W → Below w0.heap.size w0 W := fun W h => h.below hw0 (Nat.le_refl _) (fun k hk => (hX k hk).1)
  have hBlt : Bs < w.heap.size := cell_lt hBs
  have hrow : ∀ k, rowOf v xs = some k → k < w.heap.size := by
    intro k hk
    obtain ⟨A, c, rfl, hc, hm, hx⟩ := hR
    unfold rowOf at hk
    split at hk
    · cases hk
    · rename_i hne
      have hp : 0 < xs.length := List.length_pos_iff.2 hne
      obtain ⟨b, o, rfl, hy⟩ := hx hp
      have : b < w.heap.size := cell_lt (hy 0 hp)
      simp only [Value.ownBlock, Option.some.injEq] at hk
      omega
  have hpost : ∀ (xs' : List (Fin xs.length)) (W : World), Turn X w W → ∀ e (a' : Act) W', roundPostT X w I Ix xs' W e a' W' →
      ownPostG w.heap.size (KeepB Bs (rowOf v xs)) (fun pre W => I pre W ∧ Turn X w W) (fun c pre W => Ix c pre W ∧ Turn X w W) xs' W e a' W' := by
    intro xs' W hW e a' W' hp
    have hkp : ∀ {W'}, Turn X w W' → KeepB Bs (rowOf v xs) W W' := fun h a ha => by
      have hb : ∀ {W'}, Turn X w W' → W'.cell? a = w.cell? a := fun h => by
        refine World.cell?_of_block (w := w) (h.block a.block ?_ ?_)
        · rcases ha with ha | ha
          · rw [ha]; exact hBlt
          · exact hrow _ ha
        · intro hx
          rcases ha with ha | ha
          · exact (hX _ hx).2.2.1 ha
          · exact (hX _ hx).2.2.2 ha
      exact (hb h).trans (hb hW).symm
    cases e with
    | normal => exact ⟨hp.2.1, hkp hp.1, hp.2.2, hp.1⟩
    | ret => exact ⟨hp.2.1, hp.2.2, hp.1⟩
    | exit id => exact hp.elim
    | goto t => exact hp.elim
    | panic c => exact hp.elim
    | outgrown => exact hp.elim
  refine wpIn_rangeFunc_ownG rfl (by omega) (gf := 300) (lb := #[.pointer (some ⟨Bs, 0, none⟩)]) hg trivial (enters_of Tryz.func300 (by kernel_rfl) rfl)
    (back_stops (n - 1) (by omega) Bs v xs w hBs hR) (fun h k => keepB_t h k) ?_ (Below.refl _ _) (fun x => by rw [hps]; rfl)
    (fun pre W => I pre W ∧ Turn X w W) (fun c pre W => Ix c pre W ∧ Turn X w W) (OwnFrom.and (hI.from _) hT) (fun c => OwnFrom.and ((hIx c).from _) hT) ⟨h0, Turn.refl _ _⟩ a₁ hassign ?_ ?_ ?_
  · intro W l o o' hl ho hc _
    intro ad had
    refine World.cell?_of_block (w := W) (World.putObj_heap_other (fun e => ?_))
    rcases had with h | h
    · omega
    · have := hrow _ h; omega
  · intro l pre x W ⟨hi, ht⟩ hlen
    exact wpIn_mono (hbody l pre x W hi (hb0 W ht) ht hlen) (hpost _ W ht)
  · rintro D ys W hD rfl ⟨hi, ht⟩ hK
    exact hdone D W hD hi (hb0 W ht) ht hK
  · rintro D c pre W hD hSp ⟨hi, ht⟩ hK
    exact hstop D c pre W hD hSp hi (hb0 W ht) hK

/-- A loop over slices.Backward: X: the boxes that its body may write. -/
theorem range_back {g : Operand} {ps : Array Tmp} {assign body : Code} {Q : Exit → Act → World → Prop} {a : Act} {w : World} {n : Nat} (hn : 3 ≤ n) {Bs : Nat} {v : Value} {xs : List Int}
    (hg : a.eval g = .func (.func 300) #[] #[.pointer (some ⟨Bs, 0, none⟩)]) (hBs : w.cell? ⟨Bs, 0, none⟩ = some v) (hR : Rd w v xs) (hps : ps.size = 2)
    (w0 : World) (hw0 : Below w0.heap.size w0 w) (X : List Nat) (hX : ∀ k ∈ X, w0.heap.size ≤ k ∧ k < w.heap.size ∧ k ≠ Bs ∧ rowOf v xs ≠ some k)
    (I : List (Fin xs.length) → World → Prop) (Ix : Code → List (Fin xs.length) → World → Prop) (hI : CellsOnly I) (hIx : ∀ c, CellsOnly (Ix c)) (h0 : I [] w) (a₁ : Fin xs.length → Act)
    (hassign : ∀ (l : Nat) (x : Fin xs.length) (W : World) (K : Act → World → Prop), K (a₁ x) W →
      assign.wpIn (Fence.wide.inRound l) (n - 1 - 1) Tryz.prog (Exit.then K (fun _ _ _ => False)) { tmps := (ps.zip (encB xs x)).foldl (fun t (p, v) => t.setIfInBounds p v) a.tmps, defers := [] } W)
    (hbody : ∀ (l : Nat) (pre : List (Fin xs.length)) (x : Fin xs.length) (W : World), I pre W → Below w0.heap.size w0 W → Turn X w W → pre.length < xs.length → body.wpIn (Fence.wide.inRound l) (n - 1 - 1) Tryz.prog (roundPost X I Ix (pre ++ [x]) W) (a₁ x) W)
    (hdone : ∀ (D : Nat) (W : World), w.heap.size ≤ D → I (down xs.length xs.length) W → Below w0.heap.size w0 W → Turn X w W → W.heap[D]? = some (.deferred (some [])) → Q .normal { a with defers := { target := .collected D, args := #[] } :: a.defers } W)
    (hstop : ∀ (D : Nat) (c : Code) (pre : List (Fin xs.length)) (W : World), w.heap.size ≤ D → (∃ k, k ≤ xs.length ∧ pre = down xs.length k) → Ix c pre W → Below w0.heap.size w0 W → W.heap[D]? = some (.deferred (some [])) → c.wpIn Fence.wide n Tryz.prog Q { a with defers := { target := .collected D, args := #[] } :: a.defers } W) :
    (Code.rangeFunc g ps assign body).wpIn Fence.wide n Tryz.prog Q a w := by
  refine range_backT hn hg hBs hR hps w0 hw0 X hX I Ix hI hIx h0 a₁ hassign ?_ hdone hstop
  intro l pre x W hi hb ht hlen
  refine wpIn_mono (hbody l pre x W hi hb ht hlen) ?_
  have hk : ∀ {W'}, Turn X W W' → KeepsFrom w.heap.size W W' := fun h => ⟨h.size, fun k o hB hk _ => (h.block k (Array.getElem?_eq_some_iff.1 hk).1 (fun hx => by have := (hX k hx).2.1; omega)).trans hk⟩
  intro e a' W' hp
  cases e with
  | normal => exact ⟨ht.trans hp.1, hk hp.1, hp.2⟩
  | ret => exact ⟨ht.trans hp.1, hk hp.1, hp.2⟩
  | exit id => exact hp.elim
  | goto t => exact hp.elim
  | panic c => exact hp.elim
  | outgrown => exact hp.elim

end Go.Proofs.YtffndcjmabjhiaaGreatDoor
