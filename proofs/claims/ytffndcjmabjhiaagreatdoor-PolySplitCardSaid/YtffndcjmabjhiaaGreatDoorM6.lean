/- slices.Backward over fractions: the iterator's contract. Conditions: none. The deferred function of package poly's computations. Conditions: none. 'try' of package poly where nothing fails. Conditions: the polynomials are valid; the computation returns. Add, Sub, Mul of package poly, where nothing fails. Conditions: the tables of strconv; the polynomials are valid. Derivative of package poly, and 'try' at a fraction and at a number, where nothing fails. Conditions: the tables of strconv; the polynomials are valid. -/
import Derived.Test.YtffndcjmabjhiaaGreatDoorM1
import Derived.Test.YtffndcjmabjhiaaGreatDoorI4
import Derived.Defers
import Derived.Recover
import Derived.Test.YtffndcjmabjhiaaGreatDoorM3
import Derived.Test.YtffndcjmabjhiaaGreatDoorM5
namespace Go.Proofs.YtffndcjmabjhiaaGreatDoor
open Go.RowKit Num
open Go.Shelf
attribute [local go_sem] Oper.semAt_some

abbrev encQ (ql : List Rat) (p : Fin ql.length) : Array Value := #[.int .i64 (p.1 : Nat), .agg #[.string (numT (some (cf ql p.1))), .string (denT (some (cf ql p.1)))]]
set_option maxRecDepth 100000 in
set_option maxHeartbeats 2000000 in
theorem back1q_in (n : Nat) (hn : 1 ≤ n) (l Bs : Nat) (Ak : Option Nat) (A : Option Addr) (cap : Nat) (ql : List Rat) (hm : ql.length ≤ 1000) (J Jx : List (Fin ql.length) → World → Prop)
    (hY : ∀ pre x W, J pre W → pre.length < ql.length → YieldAt Fence.wide (n - 1) Tryz.prog l (encQ ql x) W fun e W' =>
      (e = .returned (.bool true) ∧ J (pre ++ [x]) W' ∧ KeepB Bs Ak W W') ∨ (e = .returned (.bool false) ∧ Jx (pre ++ [x]) W'))
    (W : World) (hBs : W.cell? ⟨Bs, 0, none⟩ = some (.slice A ql.length cap))
    (hx : 0 < ql.length → ∃ b o, A = some ⟨b, o, none⟩ ∧ Ak = some b ∧ ∀ j, j < ql.length → W.cell? ⟨b, o + j * 2, none⟩ = some (.string (numT (some (cf ql j)))) ∧ W.cell? ⟨b, o + j * 2 + 1, none⟩ = some (.string (denT (some (cf ql j))))) (h0 : J [] W) :
    CallsIn Fence.wide n Tryz.prog 251 #[.func (.yield l) #[] #[], .pointer (some ⟨Bs, 0, none⟩)] W fun e W' => (∃ v, e = .returned v) ∧
      ((∃ ys, ys = down ql.length ql.length ∧ J ys W') ∨ (∃ pre, (∃ k, k ≤ ql.length ∧ pre = down ql.length k) ∧ Jx pre W')) := by
  refine callsIn_of_wp Tryz.func251 rfl trivial ?_ rfl
  simp only [Tryz.ntmps251, List.size_toArray, List.length_cons, List.length_nil, Nat.reduceAdd, Nat.reduceSub, Array.replicate_succ, Array.replicate_zero, List.push_toArray, List.append_toArray, List.nil_append, List.cons_append]
  gi_wp2
  gi_loopw [3] (fun i wr => ∃ k : Nat, k ≤ ql.length ∧ i = .int .i64 ((k : Int) - 1) ∧ J (down ql.length (ql.length - k)) wr ∧ KeepB Bs Ak W wr)
    (fun i _ => ((intOf i) + 1).toNat)
  case atStart => exact ⟨ql.length, Nat.le_refl _, rfl, by rw [Nat.sub_self]; exact h0, fun _ _ => rfl⟩
  case round =>
    obtain ⟨k, hk, rfl, hJs, hnx⟩ := hrel
    have hbs := (hnx ⟨Bs, 0, none⟩ (.inl rfl)).trans hBs
    rcases Nat.eq_zero_or_pos k with rfl | hk0
    · gi_wp2
      go_end0
      exact ⟨⟨_, rfl⟩, .inl ⟨_, by rw [Nat.sub_zero], hJs⟩⟩
    · obtain ⟨p, rfl⟩ : ∃ p, k = p + 1 := ⟨k - 1, by omega⟩
      obtain ⟨b, o, rfl, rfl, hy⟩ := hx (by omega)
      have hcell : wr.cell? ⟨b, o + p * 2, none⟩ = some (.string (numT (some (cf ql p)))) := (hnx ⟨b, o + p * 2, none⟩ (.inr rfl)).trans (hy p (by omega)).1
      have hcell2 : wr.cell? ⟨b, o + p * 2 + 1, none⟩ = some (.string (denT (some (cf ql p)))) := (hnx ⟨b, o + p * 2 + 1, none⟩ (.inr rfl)).trans (hy p (by omega)).2
      have hd := down_succ (n := ql.length) (k := ql.length - (p + 1)) (by omega)
      rw [show ql.length - (p + 1) + 1 = ql.length - p by omega] at hd
      have hpx : (⟨ql.length - 1 - (ql.length - (p + 1)), by omega⟩ : Fin ql.length) = ⟨p, by omega⟩ := Fin.ext (by show ql.length - 1 - (ql.length - (p + 1)) = p; omega)
      rw [hpx] at hd
      obtain ⟨fn, tmps, assign, body, hyy, hR⟩ := hY _ (⟨p, by omega⟩ : Fin ql.length) wr hJs (by rw [down_length (by omega)]; omega)
      have HD := Lib.hid hd
      have HY := Lib.hid hY
      have HX := Lib.hid hx
      have HZ := Lib.hid hy
      have HB := Lib.hid hnx
      dsimp only [encQ] at hyy
      clear hd hpx hY hx hy hnx
      rw [show (((p + 1 : Nat) : Int) - 1) = (p : Int) by omega]
      gi_wp2
      refine hR.mono ?_
      rintro e W3 (⟨rfl, hJ3, hk3⟩ | ⟨rfl, hJx3⟩)
      · gi_wp2
        go_roundw
        case rel => exact ⟨p, by omega, rfl, by rw [HD.out]; exact hJ3, keepB_t HB.out hk3⟩
        case measure => simp [intOf]
      · gi_wp2
        refine bodyPost_ret (results_none rfl _ _ _) rfl ?_
        exact ⟨⟨_, rfl⟩, .inr ⟨_, ⟨ql.length - p, by omega, HD.out.symm⟩, hJx3⟩⟩

/-- The block in which a slice's fractions lie. -/
def rowOfQ (v : Value) (ql : List Rat) : Option Nat := if ql = [] then none else v.ownBlock
theorem backq_stops (n : Nat) (hn : 1 ≤ n) (Bs : Nat) (v : Value) (ql : List Rat) (w : World) (hBs : w.cell? ⟨Bs, 0, none⟩ = some v) (hR : Pv w v ql) :
    SeqStopsK Fence.wide n Tryz.prog 251 #[.pointer (some ⟨Bs, 0, none⟩)] (encQ ql) (KeepB Bs (rowOfQ v ql)) (fun ys => ys = down ql.length ql.length) (fun pre => ∃ k, k ≤ ql.length ∧ pre = down ql.length k) ql.length w := fun l J Jx W hW _ _ hY h0 => by
  obtain ⟨A, c, rfl, hc, hm, hx⟩ := hR.below hW
  refine back1q_in n hn l Bs _ A c ql hm.1 J Jx hY W ((hW.cell (p := ⟨Bs, 0, none⟩) (cell_lt hBs)).trans hBs) (fun hp => ?_) h0
  obtain ⟨b, o, rfl, hy⟩ := hx hp
  refine ⟨b, o, rfl, ?_, hy⟩
  unfold rowOfQ
  rw [if_neg (fun e => by rw [e] at hp; simp at hp)]
  rfl

/-- A loop over slices.Backward whose variable lies in a box: X: the boxes that its body may write. -/
theorem range_backQ {g : Operand} {ps : Array Tmp} {assign body : Code} {Q : Exit → Act → World → Prop} {a : Act} {w : World} {n : Nat} (hn : 3 ≤ n) {Bs : Nat} {v : Value} {ql : List Rat}
    (hg : a.eval g = .func (.func 251) #[] #[.pointer (some ⟨Bs, 0, none⟩)]) (hBs : w.cell? ⟨Bs, 0, none⟩ = some v) (hR : Pv w v ql) (hps : ps.size = 2)
    (w0 : World) (hw0 : Below w0.heap.size w0 w) (X : List Nat) (hX : ∀ k ∈ X, w0.heap.size ≤ k ∧ k < w.heap.size ∧ k ≠ Bs ∧ rowOfQ v ql ≠ some k)
    (I : List (Fin ql.length) → World → Prop) (hI : CellsOnly I) (h0 : I [] w) (Ax : Fin ql.length → Act → World → Prop) (hAx : ∀ x a', CellsOnly (fun (_ : Unit) W => Ax x a' W))
    (hassign : ∀ (l : Nat) (pre : List (Fin ql.length)) (x : Fin ql.length) (W : World) (K : Act → World → Prop), I pre W → Turn X w W → (∀ a' W', Below W.heap.size W W' → I pre W' → Ax x a' W' → K a' W') →
      assign.wpIn (Fence.wide.inRound l) (n - 1 - 1) Tryz.prog (Exit.then K (fun _ _ _ => False)) { tmps := (ps.zip (encQ ql x)).foldl (fun t (p, v) => t.setIfInBounds p v) a.tmps, defers := [] } W)
    (hbody : ∀ (l : Nat) (pre : List (Fin ql.length)) (x : Fin ql.length) (a' : Act) (W : World), I pre W → Below w0.heap.size w0 W → Turn X w W → Ax x a' W → pre.length < ql.length → body.wpIn (Fence.wide.inRound l) (n - 1 - 1) Tryz.prog (roundPost X I (fun _ _ _ => False) (pre ++ [x]) W) a' W)
    (hdone : ∀ (D : Nat) (W : World), w.heap.size ≤ D → I (down ql.length ql.length) W → Below w0.heap.size w0 W → Turn X w W → W.heap[D]? = some (.deferred (some [])) → Q .normal { a with defers := { target := .collected D, args := #[] } :: a.defers } W) :
    (Code.rangeFunc g ps assign body).wpIn Fence.wide n Tryz.prog Q a w := by
  have hT : OwnFrom w.heap.size (fun (_ : List (Fin ql.length)) W => Turn X w W) := fun s W W' row hs hg' hr =>
    ⟨hg'.os.trans hs.os, hg'.tape.trans hs.tape, hg'.output.trans hs.output, Nat.le_trans hs.size hg'.size, fun k hk hkX =>
      (hg'.block k (Nat.lt_of_lt_of_le hk hs.size) (fun e => by have := (hr k e.symm).1; omega)).trans (hs.block k hk hkX)⟩
  have hb0 : ∀ W, Turn X w W → Below w0.heap.size w0 W := fun W h => h.below hw0 (Nat.le_refl _) (fun k hk => (hX k hk).1)
  have hBlt : Bs < w.heap.size := cell_lt hBs
  have hrow : ∀ k, rowOfQ v ql = some k → k < w.heap.size := by
    intro k hk
    obtain ⟨A, c, rfl, hc, hm, hx⟩ := hR
    unfold rowOfQ at hk
    split at hk
    · cases hk
    · rename_i hne
      have hp : 0 < ql.length := List.length_pos_iff.2 hne
      obtain ⟨b, o, rfl, hy⟩ := hx hp
      have : b < w.heap.size := cell_lt (hy 0 hp).1
      simp only [Value.ownBlock, Option.some.injEq] at hk
      omega
  have hkb : ∀ {W W' : World}, w.heap.size ≤ W.heap.size → Below W.heap.size W W' → KeepB Bs (rowOfQ v ql) W W' := fun {W W'} hs h ad had => by
    refine World.cell?_of_block (w := W) (h.block ad.block ?_)
    rcases had with e | e
    · omega
    · have := hrow _ e; omega
  have hkf : ∀ {W W' : World}, Below W.heap.size W W' → KeepsFrom w.heap.size W W' := fun h => ⟨h.size, fun k o _ hk _ => (h.block k (Array.getElem?_eq_some_iff.1 hk).1).trans hk⟩
  have hkt : ∀ {W W' : World}, Turn X w W → Turn X W W' → KeepsFrom w.heap.size W W' := fun _ h => ⟨h.size, fun k o hB hk _ => (h.block k (Array.getElem?_eq_some_iff.1 hk).1 (fun hx => by have := (hX k hx).2.1; omega)).trans hk⟩
  have hkp : ∀ {W W' : World}, Turn X w W → Turn X W W' → KeepB Bs (rowOfQ v ql) W W' := fun {W W'} hw h ad had => by
    refine World.cell?_of_block (w := W) (h.block ad.block ?_ ?_)
    · rcases had with e | e
      · rw [e]; exact Nat.lt_of_lt_of_le hBlt hw.size
      · exact Nat.lt_of_lt_of_le (hrow _ e) hw.size
    · intro hx
      rcases had with e | e
      · exact (hX _ hx).2.2.1 e
      · exact (hX _ hx).2.2.2 e
  refine wpIn_rangeFunc_ownH rfl (by omega) (gf := 251) (lb := #[.pointer (some ⟨Bs, 0, none⟩)]) hg trivial (enters_of Tryz.func251 (by kernel_rfl) rfl)
    (backq_stops (n - 1) (by omega) Bs v ql w hBs hR) (fun h k => keepB_t h k) ?_ (Below.refl _ _) (fun x => by rw [hps]; rfl)
    (fun pre W => I pre W ∧ Turn X w W) (fun _ _ _ => False) (OwnFrom.and (hI.from _) hT) (fun _ _ _ _ _ hs _ _ => hs) ⟨h0, Turn.refl _ _⟩ Ax (fun x a' => (hAx x a').from _) ?_ ?_ ?_ ?_
  · intro W l o o' hl ho hc _
    intro ad had
    refine World.cell?_of_block (w := W) (World.putObj_heap_other (fun e => ?_))
    rcases had with h | h
    · omega
    · have := hrow _ h; omega
  · intro l pre x W K ⟨hi, ht⟩ hK
    exact hassign l pre x W K hi ht fun a' W' hb hi' ha => hK a' W' (hkf hb) (hkb ht.size hb) ⟨hi', ht.trans (Turn.of_below hb)⟩ ha
  · intro l pre x a' W _ _ ⟨hi, ht⟩ ha hlen
    refine wpIn_mono (hbody l pre x a' W hi (hb0 W ht) ht ha hlen) ?_
    intro e a2 W' hp
    cases e with
    | normal => exact ⟨hkt ht hp.1, hkp ht hp.1, hp.2, ht.trans hp.1⟩
    | ret => exact hp.2.elim
    | exit id => exact hp.elim
    | goto t => exact hp.elim
    | panic c => exact hp.elim
    | outgrown => exact hp.elim
  · rintro D ys W hD rfl ⟨hi, ht⟩ hK
    exact hdone D W hD hi (hb0 W ht) ht hK
  · rintro D c pre W _ _ h _
    exact h.elim

end Go.Proofs.YtffndcjmabjhiaaGreatDoor

namespace Go.Proofs.YtffndcjmabjhiaaGreatDoor
open Go.RowKit Num
open Go.Shelf

set_option maxRecDepth 100000 in
theorem failed_idle (p : Addr) (w : World) :
    CallsD Tryz.prog 148 #[.pointer (some p)] .returning w fun e u' w' => e = .returned (.tuple #[]) ∧ u' = .returning ∧ w' = w := by
  have hnil : ∀ w : World, (binOp BinOp.eql 20 .nilIface .nilIface).run Tryz.prog w = .ok (.bool true) w := fun _ => by kernel_rfl
  refine callsD_of_wpS Tryz.func148 rfl fun c₀ cs hu => ?_
  apply wpS_seq
  apply wpS_region
  simp [wpOpsS, go_sem, recoverD, hu, Tryz.ntmps148, Exit.thenS]
  refine wpS_of_wp ?_
  go_wp2
  cases c₀
  simp_all [bodyPostS, results, Tryz.results148]

set_option maxRecDepth 100000 in
theorem failed_caught (b : Nat) (x : Value) (older : List PanicEntry) (w : World) (hc : w.cell? ⟨b, 0, none⟩ = some x) (hz : w.frozen? ⟨b, 0, none⟩ = false) :
    CallsD Tryz.prog 148 #[.pointer (some ⟨b, 0, none⟩)] (.panicking ({ v := .iface 197 (.agg #[]), recovered := false } :: older)) w fun e u' w' =>
      e = .returned (.tuple #[]) ∧ u' = .panicking ({ v := .iface 197 (.agg #[]), recovered := true } :: older) ∧ w' = (w.alloc (.cells #[] 197)).setCell ⟨b, 0, none⟩ (.int .i64 70) := by
  have hnil : ∀ w : World, (binOp BinOp.eql 20 (.iface 197 (.agg #[])) .nilIface).run Tryz.prog w = .ok (.bool false) w := fun _ => by kernel_rfl
  have hta : ∀ w : World, (Instr.typeAssert (.iface 197 (.agg #[])) 20 197 true).run Tryz.prog w = .ok (.tuple #[.agg #[], .bool true]) w := fun _ => by kernel_rfl
  have hbl := below1 w (.cells #[] 197)
  have hc2 := (hbl.cell (cell_lt hc)).trans hc
  have hz2 := (frozen_of_block (o := 0) (hbl.block b (cell_lt hc))).trans hz
  refine callsD_of_wpS Tryz.func148 rfl fun c₀ cs hu => ?_
  apply wpS_seq
  apply wpS_region
  simp [wpOpsS, go_sem, recoverD, hu, Tryz.ntmps148, Exit.thenS]
  refine wpS_of_wp ?_
  go_wp2
  cases c₀
  simp_all [bodyPostS, results, Tryz.results148]

end Go.Proofs.YtffndcjmabjhiaaGreatDoor

namespace Go.Proofs.YtffndcjmabjhiaaGreatDoor
open Go.RowKit Num
open Go.Shelf

theorem blk_one {W : World} {Q : Nat} {T : TypeId} {x v : Value} {k : Nat} (h : Blk W Q T [x]) (hc : W.cell? ⟨Q, k, none⟩ = some v) : v = x := by
  cases k with
  | zero => exact Option.some.inj (hc.symm.trans (h.cell 0 rfl))
  | succ k =>
    unfold Blk at h
    simp [World.cell?, h] at hc
theorem Pv.other {W : World} {v : Value} {l : List Rat} (h : Pv W v l) {Q : Nat} {T : TypeId} {x : Int} (hq : Blk W Q T [.int .i64 x]) (u : Value) : Pv (W.setCell ⟨Q, 0, none⟩ u) v l := by
  obtain ⟨A, c, hv, hc, hm, hx⟩ := h
  refine ⟨A, c, hv, hc, hm, fun h0 => ?_⟩
  obtain ⟨b, o, hA, hy⟩ := hx h0
  have hne : b ≠ Q := fun e => by
    have h1 := (hy 0 h0).1
    rw [e] at h1
    have := blk_one hq h1
    cases this
  have hb : (W.setCell ⟨Q, 0, none⟩ u).heap[b]? = W.heap[b]? := Below.heap_setCell _ _ _ _ hne
  exact ⟨b, o, hA, fun j hj => ⟨(World.cell?_of_block (w := W) (a := ⟨b, o + j * 2, none⟩) hb).trans (hy j hj).1, (World.cell?_of_block (w := W) (a := ⟨b, o + j * 2 + 1, none⟩) hb).trans (hy j hj).2⟩⟩
/-- The polynomials of a list are valid. -/
def AllV (w : World) (gl n : Nat) : Prop := ∀ i, i < n → ∃ v l, w.cell? ⟨gl, i, none⟩ = some v ∧ Pv w v l ∧ l.length ≤ 13 ∧ NT l
set_option maxHeartbeats 2000000 in
set_option maxRecDepth 100000 in
theorem try_l {G : FuncId} {caps : Array Value} {r : List Rat} {gl n : Nat} (w : World) (eg : ∀ args w, (callFunc G args).run Tryz.prog w = .ok (.enter G args) w) (hn : n ≤ 1000) (hv : AllV w gl n)
    (hf : ∀ W, Below w.heap.size w W → Calls Tryz.prog G caps W (RetL7 W r)) (hL : Laid w) :
    Calls Tryz.prog 68 #[.func (.func G) #[] caps, .slice (some ⟨gl, 0, none⟩) n n] w (fun e w' => ∃ v, e = .returned (.tuple #[v, .int .i64 0]) ∧ Pv w' v r ∧ Below w.heap.size w w') := by
  have HV := Lib.hid hv
  have HL0 := Lib.hid hL
  have HF := Lib.hid hf
  have M := Lib.hid (fun w => must_true w)
  clear hv hf
  have b1 := below1 w (.cells #[.int .i64 0] 31)
  have Be := Blk.new w 31 [.int .i64 0]
  go_enter_defers Tryz.func68, Tryz.ntmps68
  go_wp2
  go_loopg [10] n (fun k s10 wr => ∃ i : Nat, s10 = .int .i64 i ∧ i ≤ n ∧ n ≤ k + i ∧ Blk wr w.heap.size 31 [.int .i64 0] ∧ Below w.heap.size w wr)
  case atStart => exact ⟨0, rfl, by omega, by omega, Be, b1⟩
  case round =>
    clear Be b1
    obtain ⟨i, rfl, hi, hk, Be, hB⟩ := hrel
    by_cases hg : i < n
    · have hgi : (i : Int) < n := by omega
      obtain ⟨v, l, hc, hp, hl, hnt⟩ := HV.out i hg
      have C := pvalid_any wr (hp.below hB) hl (HL0.out.below hB)
      rw [ntB_true hnt] at C
      have CV := Lib.hid C
      have k0 := (hB.cell (cell_lt hc)).trans hc
      clear C hc hp hl hnt
      go_wp2_with (first
        | (go_at_call 43; (with_reducible refine CV.out.mono ?_); rintro e w1 ⟨rfl, hb⟩; replace Be := Be.below hb; replace hB := below_up hB hb; clear hb)
        | (go_at_call 53; refine (M.out _).mono ?_; rintro e w' ⟨rfl, hw⟩; rw [hw]; clear hw))
      all_goals go_roundg (n - (i + 1))
      all_goals first | omega | exact ⟨i + 1, by go_num, by omega, by omega, Be, hB⟩
    · obtain rfl : i = n := by omega
      have HC := Lib.hid (HF.out wr hB)
      go_wp2_with (go_at_fn G; refine HC.out.mono ?_; rintro e w1 ⟨v, rfl, hv, hb⟩; replace Be := Be.below hb; replace hB := below_up hB hb; clear hb; have e0 := Be.cell 0 (v := .int .i64 0) rfl; have f0 := Be.frozen 0)
      have Be2 := Be.set 0 (.int .i64 0)
      have e1 := Be2.cell 0 (v := .int .i64 0) rfl
      refine leaves_cons (f := 148) (args := #[.pointer (some ⟨w.heap.size, 0, none⟩)]) (by simp) (by simp [go_sem]) ?_
      refine (failed_idle ⟨w.heap.size, 0, none⟩ _).mono ?_
      rintro e u' w'' ⟨rfl, rfl, rfl⟩
      simp [Leaves, settle, results, Tryz.results68, go_sem, e1]
      exact ⟨hv.other Be _, hB.setCell (by dsimp; omega) _⟩

end Go.Proofs.YtffndcjmabjhiaaGreatDoor

namespace Go.Proofs.YtffndcjmabjhiaaGreatDoor
open Go.RowKit Num
open Go.Shelf

/-- The call returns a polynomial and no error. -/
def RetLE (w : World) (r : List Rat) (e : Ending) (w' : World) : Prop := ∃ x, e = .returned (.tuple #[x, .int .i64 0]) ∧ Pv w' x r ∧ Below w.heap.size w w'
set_option maxRecDepth 100000 in
theorem cl_add {v u : Value} {p q r : List Rat} {B2 B3 : Nat} (W : World) (h2 : W.cell? ⟨B2, 0, none⟩ = some v) (h3 : W.cell? ⟨B3, 0, none⟩ = some u) (hv : Pv W v p) (hu : Pv W u q) (hp : p.length ≤ 13) (hq : q.length ≤ 13) (hr : combO addQ p q = some r) (hL : Laid W) :
    Calls Tryz.prog 218 #[.pointer (some ⟨B2, 0, none⟩), .pointer (some ⟨B3, 0, none⟩)] W (RetL7 W r) := by
  have C := Lib.hid (pcomb_add W hv hu hp hq hr hL)
  obtain ⟨A, c, rfl, -, -, -⟩ := hv
  obtain ⟨A', c', rfl, -, -, -⟩ := hu
  clear hr hp hq
  go_enter Tryz.func218, Tryz.ntmps218
  go_wp2_with (go_at_call 219; (with_reducible refine C.out.mono ?_); rintro e w1 ⟨x, rfl, hx, hb⟩)
  go_ret
  exact ⟨x, rfl, hx, hb⟩
set_option maxHeartbeats 1000000 in
set_option maxRecDepth 100000 in
theorem api_add {v u : Value} {p q r : List Rat} (w : World) (hv : Pv w v p) (hu : Pv w u q) (hp : Vp p) (hq : Vp q) (hr : combO addQ p q = some r) (hL : Laid w) :
    Calls Tryz.prog 134 #[v, u] w (RetLE w r) := by
  have HV := Lib.hid hv
  have HU := Lib.hid hu
  have hmf : ∀ (fn : Fn) (first cap : Array Value) (w : World), (Instr.makeFunc fn first cap).run Tryz.prog w = .ok (.func fn first cap) w := fun _ _ _ _ => rfl
  obtain ⟨A, c, rfl, -, -, -⟩ := hv
  obtain ⟨A', c', rfl, -, -, -⟩ := hu
  obtain ⟨w3, hw3⟩ : ∃ w3, ((w.alloc (.cells #[.slice A p.length c] 24)).alloc (.cells #[.slice A' q.length c'] 24)).alloc (.cells #[.slice A p.length c, .slice A' q.length c'] 119) = w3 := ⟨_, rfl⟩
  have hb3 : Below w.heap.size w w3 := by rw [← hw3]; exact below_up (below_up (below1 _ _) (below1 _ _)) (below1 _ _)
  have B2 : Blk w3 w.heap.size 24 [.slice A p.length c] := by rw [← hw3]; exact ((Blk.new w _ _).alloc _).alloc _
  have B3 : Blk w3 (w.heap.size + 1) 24 [.slice A' q.length c'] := by rw [← hw3]; exact (Blk.new2 w _ _ _).alloc _
  have B4 : Blk w3 (w.heap.size + 1 + 1) 119 [.slice A p.length c, .slice A' q.length c'] := by rw [← hw3]; exact Blk.new3 w _ _ _ _
  have hall : AllV w3 (w.heap.size + 1 + 1) 2 := fun i hi => by
    obtain rfl | rfl : i = 0 ∨ i = 1 := by omega
    · exact ⟨_, p, B4.cell 0 rfl, HV.out.below hb3, hp.1, hp.2.1⟩
    · exact ⟨_, q, B4.cell 1 rfl, HU.out.below hb3, hq.1, hq.2.1⟩
  have CT := Lib.hid (try_l (G := 218) (caps := #[.pointer (some ⟨w.heap.size, 0, none⟩), .pointer (some ⟨w.heap.size + 1, 0, none⟩)]) (r := r) w3 (enters_of Tryz.func218 (by kernel_rfl) rfl) (by omega) hall
    (fun W hb => cl_add W ((B2.below hb).cell 0 rfl) ((B3.below hb).cell 0 rfl) (HV.out.below (below_up hb3 hb)) (HU.out.below (below_up hb3 hb)) hp.1 hq.1 hr (hL.below (below_up hb3 hb))) (hL.below hb3))
  have HB3 := Lib.hid hb3
  clear B2 B3 B4 hall hp hq hr hb3
  subst hw3
  go_enter Tryz.func134, Tryz.ntmps134
  go_wp2_with (go_at_call 68; (with_reducible refine CT.out.mono ?_); rintro e w1 ⟨x, rfl, hx, hb⟩)
  go_ret2
  exact ⟨x, rfl, hx, below_up HB3.out hb⟩
set_option maxRecDepth 100000 in
theorem cl_sub {v u : Value} {p q r : List Rat} {B2 B3 : Nat} (W : World) (h2 : W.cell? ⟨B2, 0, none⟩ = some v) (h3 : W.cell? ⟨B3, 0, none⟩ = some u) (hv : Pv W v p) (hu : Pv W u q) (hp : p.length ≤ 13) (hq : q.length ≤ 13) (hr : combO subQ p q = some r) (hL : Laid W) :
    Calls Tryz.prog 220 #[.pointer (some ⟨B2, 0, none⟩), .pointer (some ⟨B3, 0, none⟩)] W (RetL7 W r) := by
  have C := Lib.hid (pcomb_sub W hv hu hp hq hr hL)
  obtain ⟨A, c, rfl, -, -, -⟩ := hv
  obtain ⟨A', c', rfl, -, -, -⟩ := hu
  clear hr hp hq
  go_enter Tryz.func220, Tryz.ntmps220
  go_wp2_with (go_at_call 219; (with_reducible refine C.out.mono ?_); rintro e w1 ⟨x, rfl, hx, hb⟩)
  go_ret
  exact ⟨x, rfl, hx, hb⟩
set_option maxHeartbeats 1000000 in
set_option maxRecDepth 100000 in
theorem api_sub {v u : Value} {p q r : List Rat} (w : World) (hv : Pv w v p) (hu : Pv w u q) (hp : Vp p) (hq : Vp q) (hr : combO subQ p q = some r) (hL : Laid w) :
    Calls Tryz.prog 135 #[v, u] w (RetLE w r) := by
  have HV := Lib.hid hv
  have HU := Lib.hid hu
  have hmf : ∀ (fn : Fn) (first cap : Array Value) (w : World), (Instr.makeFunc fn first cap).run Tryz.prog w = .ok (.func fn first cap) w := fun _ _ _ _ => rfl
  obtain ⟨A, c, rfl, -, -, -⟩ := hv
  obtain ⟨A', c', rfl, -, -, -⟩ := hu
  obtain ⟨w3, hw3⟩ : ∃ w3, ((w.alloc (.cells #[.slice A p.length c] 24)).alloc (.cells #[.slice A' q.length c'] 24)).alloc (.cells #[.slice A p.length c, .slice A' q.length c'] 119) = w3 := ⟨_, rfl⟩
  have hb3 : Below w.heap.size w w3 := by rw [← hw3]; exact below_up (below_up (below1 _ _) (below1 _ _)) (below1 _ _)
  have B2 : Blk w3 w.heap.size 24 [.slice A p.length c] := by rw [← hw3]; exact ((Blk.new w _ _).alloc _).alloc _
  have B3 : Blk w3 (w.heap.size + 1) 24 [.slice A' q.length c'] := by rw [← hw3]; exact (Blk.new2 w _ _ _).alloc _
  have B4 : Blk w3 (w.heap.size + 1 + 1) 119 [.slice A p.length c, .slice A' q.length c'] := by rw [← hw3]; exact Blk.new3 w _ _ _ _
  have hall : AllV w3 (w.heap.size + 1 + 1) 2 := fun i hi => by
    obtain rfl | rfl : i = 0 ∨ i = 1 := by omega
    · exact ⟨_, p, B4.cell 0 rfl, HV.out.below hb3, hp.1, hp.2.1⟩
    · exact ⟨_, q, B4.cell 1 rfl, HU.out.below hb3, hq.1, hq.2.1⟩
  have CT := Lib.hid (try_l (G := 220) (caps := #[.pointer (some ⟨w.heap.size, 0, none⟩), .pointer (some ⟨w.heap.size + 1, 0, none⟩)]) (r := r) w3 (enters_of Tryz.func220 (by kernel_rfl) rfl) (by omega) hall
    (fun W hb => cl_sub W ((B2.below hb).cell 0 rfl) ((B3.below hb).cell 0 rfl) (HV.out.below (below_up hb3 hb)) (HU.out.below (below_up hb3 hb)) hp.1 hq.1 hr (hL.below (below_up hb3 hb))) (hL.below hb3))
  have HB3 := Lib.hid hb3
  clear B2 B3 B4 hall hp hq hr hb3
  subst hw3
  go_enter Tryz.func135, Tryz.ntmps135
  go_wp2_with (go_at_call 68; (with_reducible refine CT.out.mono ?_); rintro e w1 ⟨x, rfl, hx, hb⟩)
  go_ret2
  exact ⟨x, rfl, hx, below_up HB3.out hb⟩
set_option maxRecDepth 100000 in
theorem cl_mul {v u : Value} {p q r : List Rat} {B2 B3 : Nat} (W : World) (h2 : W.cell? ⟨B2, 0, none⟩ = some v) (h3 : W.cell? ⟨B3, 0, none⟩ = some u) (hv : Pv W v p) (hu : Pv W u q) (_hp : p.length ≤ 13) (_hq : q.length ≤ 13) (hr : timesO p q = some r) (hL : Laid W) :
    Calls Tryz.prog 143 #[.pointer (some ⟨B2, 0, none⟩), .pointer (some ⟨B3, 0, none⟩)] W (RetL7 W r) := by
  have C := Lib.hid (ptimes_any W hv hu hr hL)
  obtain ⟨A, c, rfl, -, -, -⟩ := hv
  obtain ⟨A', c', rfl, -, -, -⟩ := hu
  clear hr
  go_enter Tryz.func143, Tryz.ntmps143
  go_wp2_with (go_at_call 144; (with_reducible refine C.out.mono ?_); rintro e w1 ⟨x, rfl, hx, hb⟩)
  go_ret
  exact ⟨x, rfl, hx, hb⟩
set_option maxHeartbeats 1000000 in
set_option maxRecDepth 100000 in
theorem api_mul {v u : Value} {p q r : List Rat} (w : World) (hv : Pv w v p) (hu : Pv w u q) (hp : Vp p) (hq : Vp q) (hr : timesO p q = some r) (hL : Laid w) :
    Calls Tryz.prog 44 #[v, u] w (RetLE w r) := by
  have HV := Lib.hid hv
  have HU := Lib.hid hu
  have hmf : ∀ (fn : Fn) (first cap : Array Value) (w : World), (Instr.makeFunc fn first cap).run Tryz.prog w = .ok (.func fn first cap) w := fun _ _ _ _ => rfl
  obtain ⟨A, c, rfl, -, -, -⟩ := hv
  obtain ⟨A', c', rfl, -, -, -⟩ := hu
  obtain ⟨w3, hw3⟩ : ∃ w3, ((w.alloc (.cells #[.slice A p.length c] 24)).alloc (.cells #[.slice A' q.length c'] 24)).alloc (.cells #[.slice A p.length c, .slice A' q.length c'] 119) = w3 := ⟨_, rfl⟩
  have hb3 : Below w.heap.size w w3 := by rw [← hw3]; exact below_up (below_up (below1 _ _) (below1 _ _)) (below1 _ _)
  have B2 : Blk w3 w.heap.size 24 [.slice A p.length c] := by rw [← hw3]; exact ((Blk.new w _ _).alloc _).alloc _
  have B3 : Blk w3 (w.heap.size + 1) 24 [.slice A' q.length c'] := by rw [← hw3]; exact (Blk.new2 w _ _ _).alloc _
  have B4 : Blk w3 (w.heap.size + 1 + 1) 119 [.slice A p.length c, .slice A' q.length c'] := by rw [← hw3]; exact Blk.new3 w _ _ _ _
  have hall : AllV w3 (w.heap.size + 1 + 1) 2 := fun i hi => by
    obtain rfl | rfl : i = 0 ∨ i = 1 := by omega
    · exact ⟨_, p, B4.cell 0 rfl, HV.out.below hb3, hp.1, hp.2.1⟩
    · exact ⟨_, q, B4.cell 1 rfl, HU.out.below hb3, hq.1, hq.2.1⟩
  have CT := Lib.hid (try_l (G := 143) (caps := #[.pointer (some ⟨w.heap.size, 0, none⟩), .pointer (some ⟨w.heap.size + 1, 0, none⟩)]) (r := r) w3 (enters_of Tryz.func143 (by kernel_rfl) rfl) (by omega) hall
    (fun W hb => cl_mul W ((B2.below hb).cell 0 rfl) ((B3.below hb).cell 0 rfl) (HV.out.below (below_up hb3 hb)) (HU.out.below (below_up hb3 hb)) hp.1 hq.1 hr (hL.below (below_up hb3 hb))) (hL.below hb3))
  have HB3 := Lib.hid hb3
  clear B2 B3 B4 hall hp hq hr hb3
  subst hw3
  go_enter Tryz.func44, Tryz.ntmps44
  go_wp2_with (go_at_call 68; (with_reducible refine CT.out.mono ?_); rintro e w1 ⟨x, rfl, hx, hb⟩)
  go_ret2
  exact ⟨x, rfl, hx, below_up HB3.out hb⟩

end Go.Proofs.YtffndcjmabjhiaaGreatDoor

namespace Go.Proofs.YtffndcjmabjhiaaGreatDoor
open Go.RowKit Num
open Go.Shelf

set_option maxRecDepth 100000 in
theorem cl_derivative {v : Value} {p r : List Rat} {B2 : Nat} (W : World) (h2 : W.cell? ⟨B2, 0, none⟩ = some v) (hv : Pv W v p) (hr : derivO p = some r) (hL : Laid W) :
    Calls Tryz.prog 69 #[.pointer (some ⟨B2, 0, none⟩)] W (RetL7 W r) := by
  have C := Lib.hid (pderiv_any W hv hr hL)
  obtain ⟨A, c, rfl, -, -, -⟩ := hv
  clear hr
  go_enter Tryz.func69, Tryz.ntmps69
  go_wp2_with (go_at_call 70; (with_reducible refine C.out.mono ?_); rintro e w1 ⟨x, rfl, hx, hb⟩)
  go_ret
  exact ⟨x, rfl, hx, hb⟩
set_option maxHeartbeats 1000000 in
set_option maxRecDepth 100000 in
theorem api_derivative {v : Value} {p r : List Rat} (w : World) (hv : Pv w v p) (hp : Vp p) (hr : derivO p = some r) (hL : Laid w) :
    Calls Tryz.prog 19 #[v] w (RetLE w r) := by
  have HV := Lib.hid hv
  have hmf : ∀ (fn : Fn) (first cap : Array Value) (w : World), (Instr.makeFunc fn first cap).run Tryz.prog w = .ok (.func fn first cap) w := fun _ _ _ _ => rfl
  obtain ⟨A, c, rfl, -, -, -⟩ := hv
  obtain ⟨w3, hw3⟩ : ∃ w3, (w.alloc (.cells #[.slice A p.length c] 24)).alloc (.cells #[.slice A p.length c] 119) = w3 := ⟨_, rfl⟩
  have hb3 : Below w.heap.size w w3 := by rw [← hw3]; exact below_up (below1 _ _) (below1 _ _)
  have B2 : Blk w3 w.heap.size 24 [.slice A p.length c] := by rw [← hw3]; exact (Blk.new w _ _).alloc _
  have B4 : Blk w3 (w.heap.size + 1) 119 [.slice A p.length c] := by rw [← hw3]; exact Blk.new2 w _ _ _
  have hall : AllV w3 (w.heap.size + 1) 1 := fun i hi => by
    obtain rfl : i = 0 := by omega
    exact ⟨_, p, B4.cell 0 rfl, HV.out.below hb3, hp.1, hp.2.1⟩
  have CT := Lib.hid (try_l (G := 69) (caps := #[.pointer (some ⟨w.heap.size, 0, none⟩)]) (r := r) w3 (enters_of Tryz.func69 (by kernel_rfl) rfl) (by omega) hall
    (fun W hb => cl_derivative W ((B2.below hb).cell 0 rfl) (HV.out.below (below_up hb3 hb)) hr (hL.below (below_up hb3 hb))) (hL.below hb3))
  have HB3 := Lib.hid hb3
  clear B2 B4 hall hp hr hb3
  subst hw3
  go_enter Tryz.func19, Tryz.ntmps19
  go_wp2_with (go_at_call 68; (with_reducible refine CT.out.mono ?_); rintro e w1 ⟨x, rfl, hx, hb⟩)
  go_ret2
  exact ⟨x, rfl, hx, below_up HB3.out hb⟩

set_option maxHeartbeats 2000000 in
set_option maxRecDepth 100000 in
theorem try_r {G : FuncId} {caps : Array Value} {r : Rat} {gl n : Nat} (w : World) (eg : ∀ args w, (callFunc G args).run Tryz.prog w = .ok (.enter G args) w) (hn : n ≤ 1000) (hv : AllV w gl n)
    (hf : ∀ W, Below w.heap.size w W → Calls Tryz.prog G caps W (RetR W r)) (hL : Laid w) :
    Calls Tryz.prog 77 #[.func (.func G) #[] caps, .slice (some ⟨gl, 0, none⟩) n n] w (RetQk w (some r) 0) := by
  have HV := Lib.hid hv
  have HL0 := Lib.hid hL
  have HF := Lib.hid hf
  have M := Lib.hid (fun w => must_true w)
  clear hv hf
  have b1 := below_up (below1 w (.cells #[.string ⟨#[]⟩, .string ⟨#[]⟩] 29)) (below1 _ (.cells #[.int .i64 0] 31))
  have Br := (Blk.new w 29 [.string ⟨#[]⟩, .string ⟨#[]⟩]).alloc (.cells #[.int .i64 0] 31)
  have Be := Blk.new2 w (.cells #[.string ⟨#[]⟩, .string ⟨#[]⟩] 29) 31 [.int .i64 0]
  go_enter_defers Tryz.func77, Tryz.ntmps77
  go_wp2
  go_loopg [10] n (fun k s10 wr => ∃ i : Nat, s10 = .int .i64 i ∧ i ≤ n ∧ n ≤ k + i ∧ Blk wr w.heap.size 29 [.string ⟨#[]⟩, .string ⟨#[]⟩] ∧ Blk wr (w.heap.size + 1) 31 [.int .i64 0] ∧ Below w.heap.size w wr)
  case atStart => exact ⟨0, rfl, by omega, by omega, Br, Be, b1⟩
  case round =>
    clear Be Br b1
    obtain ⟨i, rfl, hi, hk, Br, Be, hB⟩ := hrel
    by_cases hg : i < n
    · have hgi : (i : Int) < n := by omega
      obtain ⟨v, l, hc, hp, hl, hnt⟩ := HV.out i hg
      have C := pvalid_any wr (hp.below hB) hl (HL0.out.below hB)
      rw [ntB_true hnt] at C
      have CV := Lib.hid C
      have k0 := (hB.cell (cell_lt hc)).trans hc
      clear C hc hp hl hnt
      go_wp2_with (first
        | (go_at_call 43; (with_reducible refine CV.out.mono ?_); rintro e w1 ⟨rfl, hb⟩; replace Br := Br.below hb; replace Be := Be.below hb; replace hB := below_up hB hb; clear hb)
        | (go_at_call 53; refine (M.out _).mono ?_; rintro e w' ⟨rfl, hw⟩; rw [hw]; clear hw))
      all_goals go_roundg (n - (i + 1))
      all_goals first | omega | exact ⟨i + 1, by go_num, by omega, by omega, Br, Be, hB⟩
    · obtain rfl : i = n := by omega
      have HC := Lib.hid (HF.out wr hB)
      go_wp2_with (go_at_fn G; refine HC.out.mono ?_; rintro e w1 ⟨rfl, hb⟩; replace Be := Be.below hb; replace Br := Br.below hb; replace hB := below_up hB hb; clear hb; have e0 := Be.cell 0 (v := .int .i64 0) rfl; have f0 := Be.frozen 0; have r0 := Br.cell 0 (v := .string ⟨#[]⟩) rfl; have r1 := Br.cell 1 (v := .string ⟨#[]⟩) rfl; have g0 := Br.frozen 0; have g1 := Br.frozen 1)
      have Be2 := ((Be.other (B := w.heap.size) (by omega) 0 (.string (numT (some r)))).other (B := w.heap.size) (by omega) 1 (.string (denT (some r)))).set 0 (.int .i64 0)
      have Br2 := ((Br.set 0 (.string (numT (some r)))).set 1 (.string (denT (some r)))).other (B := w.heap.size + 1) (by omega) 0 (.int .i64 0)
      have e1 := Be2.cell 0 (v := .int .i64 0) rfl
      have q0 := Br2.cell 0 (v := .string (numT (some r))) rfl
      have q1 := Br2.cell 1 (v := .string (denT (some r))) rfl
      refine leaves_cons (f := 148) (args := #[.pointer (some ⟨w.heap.size + 1, 0, none⟩)]) (by simp) (by simp [go_sem]) ?_
      refine (failed_idle ⟨w.heap.size + 1, 0, none⟩ _).mono ?_
      rintro e u' w'' ⟨rfl, rfl, rfl⟩
      simp [Leaves, settle, results, Tryz.results77, go_sem, e1, q0, q1]
      exact ⟨rfl, ((hB.setCell (by dsimp; omega) _).setCell (by dsimp; omega) _).setCell (by dsimp; omega) _⟩

end Go.Proofs.YtffndcjmabjhiaaGreatDoor
