/- The place of a number in a chain: how often the sign changes there. Conditions: the tables of strconv; the chain is small. slices.Collect over a chain of Sturm. Conditions: the tables of strconv; no operation fails. slices.AppendSeq and slices.Collect over a chain of Sturm. Conditions: the tables of strconv; no operation fails. -/
import Derived.Test.YtffndcjmabjhiaaGreatDoorM10
import Derived.Test.YtffndcjmabjhiaaGreatDoorM7
namespace Go.Proofs.YtffndcjmabjhiaaGreatDoor
open Go.RowKit Num
open Go.Shelf

/-- The slice value v reads as polynomials. -/
def Cv (w : World) (v : Value) (ls : List (List Rat)) : Prop := ls.length ≤ 1000 ∧ ∃ g c, v = .slice (some ⟨g, 0, none⟩) ls.length c ∧ ∀ j, j < ls.length → ∃ u, w.cell? ⟨g, j, none⟩ = some u ∧ Pv w u (ls.getD j [])
theorem Cv.below {w w' : World} {v : Value} {ls : List (List Rat)} (h : Cv w v ls) (hb : Below w.heap.size w w') : Cv w' v ls := by
  obtain ⟨hm, g, c, hv, hy⟩ := h
  refine ⟨hm, g, c, hv, fun j hj => ?_⟩
  obtain ⟨u, h1, h2⟩ := hy j hj
  exact ⟨u, (hb.cell (cell_lt h1)).trans h1, h2.below hb⟩
/-- A polynomial, and a place, that are small. -/
def Sm (l : List Rat) : Prop := l.length ≤ 13 ∧ bdL 1 1000 l
def Pl (x : Rat) : Prop := bd 16 1000 x
theorem sm_ev {l : List Rat} {x : Rat} (h : Sm l) (hx : Pl x) : EvB 1 1000 16 1000 l x where
  d0 := by decide
  e0 := by decide
  hx := hx
  hp := h.2
  hD := Lo.mono (b := 1 * 16 ^ 13) (by decide) (Nat.mul_le_mul_left _ (Nat.pow_le_pow_right (by decide) h.1))
  hN := Lo.mono (b := 14 * (1000 * (1000 + 16) ^ 13)) (by decide) (Nat.mul_le_mul (by have := h.1; omega) (Nat.mul_le_mul_left _ (Nat.pow_le_pow_right (by decide) h.1)))
  hE := by decide
  hM := by decide
theorem pl_fit {x : Rat} (hx : Pl x) : fitQ x := lim.fit (hx.lim90 (by decide) (by decide) (by decide)) (by decide)
/-- A place at which the polynomials of a chain can be computed. -/
def Pe (ls : List (List Rat)) (x : Rat) : Prop := fitQ x ∧ ∀ l ∈ ls, EvG l x
theorem Pl.pe {ls : List (List Rat)} {x : Rat} (hx : Pl x) (hs : ∀ l ∈ ls, Sm l) : Pe ls x := ⟨pl_fit hx, fun l hl => (sm_ev (hs l hl) hx).g⟩
theorem ev_fit {l : List Rat} {x : Rat} (h : Sm l) (hx : Pl x) : fitQ (evP l x) := by
  rw [← Vl_all x l]
  exact (sm_ev h hx).fit _ (by rw [down_length (Nat.le_refl _)]; exact Nat.le_refl _)
/-- The call returns a place. -/
def placeV (x : Rat) (n : Nat) (r : Bool) : Value := .agg #[.string (numT (some x)), .string (denT (some x)), .int .i64 n, .bool r]
def RetPl (w : World) (x : Rat) (n : Nat) (r : Bool) (e : Ending) (w' : World) : Prop := e = .returned (placeV x n r) ∧ Below w.heap.size w w'
theorem vstep_int (l s : Int) (hl : l = -1 ∨ l = 0 ∨ l = 1) (hs : s = -1 ∨ s = 0 ∨ s = 1) : IntKind.i64.wrap (s * l) = s * l := by
  rcases hl with rfl | rfl | rfl <;> rcases hs with rfl | rfl | rfl <;> rfl
theorem rootL_zero (ls : List (List Rat)) (x : Rat) (h : 0 < ls.length) : rootL ls x = (sgnQ (evP (ls.getD 0 []) x) == 0) := by
  cases ls with
  | nil => simp at h
  | cons p l => rfl

set_option maxHeartbeats 4000000 in
set_option maxRecDepth 100000 in
theorem chat_any {v : Value} {ls : List (List Rat)} {x : Rat} (w : World) (hv : Cv w v ls) (hx : Pe ls x) (hL : Laid w) :
    Calls Tryz.prog 59 #[v, .agg #[.string (numT (some x)), .string (denT (some x))]] w (RetPl w x (varL ls x) (rootL ls x)) := by
  obtain ⟨hm, g, c, rfl, hy⟩ := hv
  have hmem : ∀ j, j < ls.length → ls.getD j [] ∈ ls := fun j hj => by
    rw [List.getD_eq_getElem?_getD, List.getElem?_eq_getElem hj]; exact List.getElem_mem hj
  have HY := Lib.hid hy
  have HL0 := Lib.hid hL
  have CP := Lib.hid (fun (j : Nat) (hj : j < ls.length) (W : World) (u : Value) (hu : Pv W u (ls.getD j [])) (hL : Laid W) => pat_any W hu hx.1 (hx.2 _ (hmem j hj)) hL)
  have CS := Lib.hid (fun (j : Nat) (hj : j < ls.length) (W : World) (hL : Laid W) => sign_any (hx.2 _ (hmem j hj)).fitP W hL)
  have HN := Lib.hid (seen_step ls x)
  have HB := Lib.hid (seen_bd ls x)
  have HR := Lib.hid (rootL_zero ls x)
  have hvar : varL ls x = (seen ls x ls.length).2 := rfl
  have hz : (seen ls x 0) = (0, 0) := rfl
  have HG := Lib.hid (fun j => sgn_mem (evP (ls.getD j []) x))
  rw [hvar]
  clear hy hL hx hmem hvar
  generalize hro : rootL ls x = ro at *
  have HRO := Lib.hid hro
  clear hro
  generalize hn : ls.length = n at *
  have HNN := Lib.hid hn
  clear hn
  generalize hsn : seen ls x = sn at *
  clear hsn
  have b3 := below_up (below_up (below1 w (.cells #[.string (numT (some x)), .string (denT (some x))] 29)) (below1 _ (.cells #[.string ⟨#[]⟩, .string ⟨#[]⟩, .int .i64 0, .bool false] 98))) (below1 _ (.cells #[.string (numT (some x)), .string (denT (some x)), .int .i64 0, .bool false] 98))
  go_enter Tryz.func59, Tryz.ntmps59
  go_wp2
  have Bx := ((Blk.new w 29 [.string (numT (some x)), .string (denT (some x))]).alloc (.cells #[.string ⟨#[]⟩, .string ⟨#[]⟩, .int .i64 0, .bool false] 98)).alloc (.cells #[.string (numT (some x)), .string (denT (some x)), .int .i64 0, .bool false] 98)
  have Bz := (Blk.new2 w (.cells #[.string (numT (some x)), .string (denT (some x))] 29) 98 [.string ⟨#[]⟩, .string ⟨#[]⟩, .int .i64 0, .bool false]).alloc (.cells #[.string (numT (some x)), .string (denT (some x)), .int .i64 0, .bool false] 98)
  have Bo := Blk.new3 w (.cells #[.string (numT (some x)), .string (denT (some x))] 29) (.cells #[.string ⟨#[]⟩, .string ⟨#[]⟩, .int .i64 0, .bool false] 98) 98 [.string (numT (some x)), .string (denT (some x)), .int .i64 0, .bool false]
  go_loopg [6, 14] n (fun k s6 s14 wr => ∃ i : Nat, s14 = .int .i64 i ∧ s6 = .int .i64 (sn i).1 ∧ i ≤ n ∧ n ≤ k + i ∧ Blk wr w.heap.size 29 [.string (numT (some x)), .string (denT (some x))] ∧ Blk wr (w.heap.size + 1) 98 [.string ⟨#[]⟩, .string ⟨#[]⟩, .int .i64 0, .bool false] ∧
    Blk wr (w.heap.size + 1 + 1) 98 [.string (numT (some x)), .string (denT (some x)), .int .i64 ((sn i).2 : Nat), .bool (if i = 0 then false else ro)] ∧ Below w.heap.size w wr)
  case atStart => exact ⟨0, rfl, by rw [hz], by omega, by omega, Bx, Bz, by rw [hz]; exact Bo, b3⟩
  case round =>
    clear Bx Bz Bo b3
    obtain ⟨i, rfl, rfl, hi, hk, Bx, Bz, Bo, hB⟩ := hrel
    by_cases hg : i < n
    · have hgi : (i : Int) < n := by omega
      obtain ⟨u, hu1, hu2⟩ := HY.out i hg
      have cu := (hB.cell (cell_lt hu1)).trans hu1
      have C1 := Lib.hid (CP.out i hg wr u (hu2.below hB) (HL0.out.below hB))
      have C2 := Lib.hid (fun W hL => CS.out i hg W hL)
      have hst := HN.out i hg
      have hbd := HB.out i hi
      have hsg := HG.out i
      have x0 := Bx.cell 0 (v := .string (numT (some x))) rfl
      have x1 := Bx.cell 1 (v := .string (denT (some x))) rfl
      have hr0 : i = 0 → ro = (sgnQ (evP (ls.getD i []) x) == 0) := fun e => by subst e; exact HR.out (by omega)
      have hs0 : i = 0 → sn i = (0, 0) := fun e => by subst e; exact hz
      obtain ⟨A1, c1, rfl, -, -, -⟩ := hu2
      clear hu1
      generalize (ls.getD i []).length = ml at *
      generalize sgnQ (evP (ls.getD i []) x) = s at *
      generalize evP (ls.getD i []) x = y at *
      generalize hsi : sn i = si at *
      obtain ⟨last, var⟩ := si
      obtain ⟨hvi, hla⟩ := hbd
      dsimp only at hvi hla
      have HST := Lib.hid hst
      have HSI := Lib.hid hsi
      have HR0 := Lib.hid hr0
      have HS0 := Lib.hid hs0
      clear hst hsi hr0 hs0 HN HB HG HR HRO HNN CP CS HY hz
      have hwv : IntKind.i64.wrap ((var : Int) + 1) = (var : Int) + 1 := IntWalk.i64_in _ (by omega)
      by_cases h0 : i = 0
      · subst h0
        obtain ⟨rfl, rfl⟩ := Prod.mk.inj (HS0.out rfl)
        rw [if_pos rfl] at Bo
        have HRZ := Lib.hid (HR0.out rfl)
        clear HR0 HS0
        rcases hsg with rfl | rfl | rfl
        all_goals go_wp2_with (first
          | (go_at_call 79; (with_reducible refine (C1.out).mono ?_); rintro e w1 ⟨rfl, hb1⟩; have hB1 := below_up hB hb1)
          | (go_at_call 142; (with_reducible refine (C2.out _ (HL0.out.below hB1)).mono ?_); rintro e w2 ⟨rfl, hb2⟩; have hB2 := below_up hB1 hb2; have hb12 := below_up hb1 hb2; have O2 := Bo.below hb12; have o2 := O2.cell 2 (v := .int .i64 0) rfl; have o3 := O2.cell 3 (v := .bool false) rfl; have fo2 := O2.frozen 2; have fo3 := O2.frozen 3))
        all_goals go_roundg (n - 1)
        all_goals first
          | omega
          | exact ⟨1, by go_num, by rw [HST.out]; rfl, by omega, by omega, (Bx.below hb12).other (by omega) _ _, (Bz.below hb12).other (by omega) _ _, by rw [HST.out, if_neg (Nat.succ_ne_zero _), HRZ.out]; exact O2.set 3 (.bool _), hB2.setCell (by show w.heap.size ≤ w.heap.size + 1 + 1; omega) _⟩
      · have hi0 : ((i : Int) == 0) = false := beq_eq_false_iff_ne.2 (by omega)
        rw [if_neg h0] at Bo
        rcases hsg with rfl | rfl | rfl <;> rcases hla with rfl | rfl | rfl
        all_goals go_wp2_with (first
          | (go_at_call 79; (with_reducible refine (C1.out).mono ?_); rintro e w1 ⟨rfl, hb1⟩; have hB1 := below_up hB hb1)
          | (go_at_call 142; (with_reducible refine (C2.out _ (HL0.out.below hB1)).mono ?_); rintro e w2 ⟨rfl, hb2⟩; have hB2 := below_up hB1 hb2; have hb12 := below_up hb1 hb2; have O2 := Bo.below hb12; have o2 := O2.cell 2 (v := .int .i64 var) rfl; have fo2 := O2.frozen 2; have fo3 := O2.frozen 3))
        all_goals go_roundg (n - (i + 1))
        all_goals first
          | omega
          | exact ⟨i + 1, by go_num, by rw [HST.out]; rfl, by omega, by omega, Bx.below hb12, Bz.below hb12, by rw [HST.out, if_neg (Nat.succ_ne_zero _)]; exact O2, hB2⟩
          | exact ⟨i + 1, by go_num, by rw [HST.out]; rfl, by omega, by omega, (Bx.below hb12).other (by omega) _ _, (Bz.below hb12).other (by omega) _ _, by rw [HST.out, if_neg (Nat.succ_ne_zero _)]; exact O2.set 2 (.int .i64 ((var : Int) + 1)), hB2.setCell (by show w.heap.size ≤ w.heap.size + 1 + 1; omega) _⟩
    · obtain rfl : i = n := by omega
      have hro : (if i = 0 then false else ro) = ro := by
        by_cases h0 : i = 0
        · rw [if_pos h0]
          have h1 := HRO.out
          have h2 : ls = [] := List.eq_nil_of_length_eq_zero (HNN.out.trans h0)
          rw [h2] at h1
          exact h1
        · rw [if_neg h0]
      rw [hro] at Bo
      generalize hsi : sn i = si at *
      obtain ⟨last, var⟩ := si
      clear hsi hz HB HG HR HRO HNN CP CS HY HN hro
      have o0 := Bo.cell 0 (v := .string (numT (some x))) rfl
      have o1 := Bo.cell 1 (v := .string (denT (some x))) rfl
      have o2 := Bo.cell 2 (v := .int .i64 var) rfl
      have o3 := Bo.cell 3 (v := .bool ro) rfl
      have z0 := Bz.cell 0 (v := .string ⟨#[]⟩) rfl
      have z1 := Bz.cell 1 (v := .string ⟨#[]⟩) rfl
      have z2 := Bz.cell 2 (v := .int .i64 0) rfl
      have z3 := Bz.cell 3 (v := .bool false) rfl
      have f0 := Bz.frozen 0
      have f1 := Bz.frozen 1
      have f2 := Bz.frozen 2
      have f3 := Bz.frozen 3
      have ZF := (((Bz.set 0 (.string (numT (some x)))).set 1 (.string (denT (some x)))).set 2 (.int .i64 var)).set 3 (.bool ro)
      have e0 := ZF.cell 0 (v := .string (numT (some x))) rfl
      have e1 := ZF.cell 1 (v := .string (denT (some x))) rfl
      have e2 := ZF.cell 2 (v := .int .i64 var) rfl
      have e3 := ZF.cell 3 (v := .bool ro) rfl
      have hw1 : w.heap.size ≤ w.heap.size + 1 := by omega
      go_wp2
      refine bodyPost_ret (v := placeV x var ro) (by simp [results, Tryz.results59, go_sem, e0, e1, e2, e3, placeV]) rfl ⟨rfl, (((hB.setCell hw1 _).setCell hw1 _).setCell hw1 _).setCell hw1 _⟩

end Go.Proofs.YtffndcjmabjhiaaGreatDoor

namespace Go.Proofs.YtffndcjmabjhiaaGreatDoor
open Go.RowKit Num
open Go.Shelf
attribute [local go_sem] Oper.semAt_some

/-- How the body of a round is left. -/
def roundK (B : Nat) (I : List (Value × List Rat) → World → Prop) (xs : List (Value × List Rat)) (W : World) : Exit → Act → World → Prop
  | .normal, _, W' => KeepsFrom B W W' ∧ SK W W' ∧ I xs W'
  | _, _, _ => False
/-- A loop over a chain of Sturm, whose body is told what is yielded. -/
theorem range_chain {g : Operand} {p1 : Tmp} {assign body : Code} {Q : Exit → Act → World → Prop} {a : Act} {w : World} {n : Nat} (hn : 2 ≤ n) {Bp : Nat} {v : Value} {p : List Rat} {ls : List (List Rat)}
    (hg : a.eval g = .func (.func 230) #[] #[.pointer (some ⟨Bp, 0, none⟩)]) (hBp : w.cell? ⟨Bp, 0, none⟩ = some v) (hv : Pv w v p) (hp : p.length ≤ 13) (hs : sturmO p = some ls)
    (I : List (Value × List Rat) → World → Prop) (hIL : ∀ pre W, I pre W → Laid W) (hIB : ∀ pre W W', I pre W → Below W.heap.size W W' → I pre W')
    (hIO : ∀ pre W l o o', I pre W → w.heap.size ≤ l → W.heap[l]? = some o → o.isCells = false → I pre (W.putObj l o')) (h0 : I [] w) (a1 : Value → Act)
    (hassign : ∀ l x W K, K (a1 x) W → assign.wpIn (Fence.wide.inRound l) (n - 1 - 1) Tryz.prog (Exit.then K (fun _ _ _ => False)) { tmps := a.tmps.setIfInBounds p1 x, defers := [] } W)
    (hbody : ∀ l pre x li W, I pre W → Pv W x li → pre.length < 14 → body.wpIn (Fence.wide.inRound l) (n - 1 - 1) Tryz.prog (roundK w.heap.size I (pre ++ [(x, li)]) W) (a1 x) W)
    (hdone : ∀ D pre W, w.heap.size ≤ D → pre.map Prod.snd = ls → I pre W → W.heap[D]? = some (.deferred (some [])) → Q .normal { a with defers := { target := .collected D, args := #[] } :: a.defers } W) :
    (Code.rangeFunc g #[p1] assign body).wpIn Fence.wide n Tryz.prog Q a w := by
  have eg : ∀ args w, (callFunc 230 args).run Tryz.prog w = .ok (.enter 230 args) w := enters_of Tryz.func230 (by kernel_rfl) rfl
  refine wpIn_rangeFunc fun fn hfn => ?_
  obtain ⟨rec, hrec⟩ : ∃ rec : LoopState → Loop, rec = fun st => { state := st, pending := none, fn, tmps := a.tmps, params := #[p1], assign, body, defers := w.heap.size } := ⟨_, rfl⟩
  obtain ⟨W1, hW1⟩ : ∃ W1, (w.alloc (.deferred (some []))).alloc (.loop (rec .ready)) = W1 := ⟨_, rfl⟩
  have hb1 : Below w.heap.size w W1 := by rw [← hW1]; exact below_up (below1 _ _) (below1 _ _)
  have hL1 : W1.heap[w.heap.size + 1]? = some (.loop (rec .ready)) := by
    rw [← hW1]; have := World.alloc_heap_new (w.alloc (.deferred (some []))) (.loop (rec .ready)); rwa [World.size_alloc] at this
  have hK1 : W1.heap[w.heap.size]? = some (.deferred (some [])) := by
    rw [← hW1]; exact (Below.heap_alloc _ _ _ (by simp)).trans (World.alloc_heap_new w _)
  have he : (Instr.enterLoop fn a.tmps #[p1] assign body Fence.wide.round).run Tryz.prog w = .ok (w.heap.size + 1, [{ target := .collected w.heap.size, args := #[] }]) W1 := by
    rw [← hW1, hrec]; exact run_enterLoop_outer _ _ _ _ _
  refine ⟨_, _, W1, { target := .fn (.func 230) #[.pointer (some ⟨Bp, 0, none⟩)], args := #[.func (.yield (w.heap.size + 1)) #[] #[]] }, W1, 230,
    #[.func (.yield (w.heap.size + 1)) #[] #[], .pointer (some ⟨Bp, 0, none⟩)], W1, he, ?_, fun _ _ => trivial, ?_, fun _ => by omega, ?_⟩
  · simp only [resolve, hg]
    simp [go_sem]
  · simp [invoke, go_sem, eg]
  refine (sturm1_in (n - 1) (by omega) (w.heap.size + 1) Bp v p ls
    (fun pre W => I pre W ∧ W.heap[w.heap.size + 1]? = some (.loop (rec .ready)) ∧ W.heap[w.heap.size]? = some (.deferred (some [])))
    (fun pre W h => hIL pre W h.1)
    (fun pre W W' h hb => ⟨hIB pre W W' h.1 hb, (hb.block _ (Array.getElem?_eq_some_iff.1 h.2.1).1).trans h.2.1, (hb.block _ (Array.getElem?_eq_some_iff.1 h.2.2).1).trans h.2.2⟩)
    ?_ W1 ((hb1.cell (cell_lt hBp)).trans hBp) (hv.below hb1) hp hs ⟨hIB _ _ _ h0 hb1, hL1, hK1⟩).mono ?_
  · rintro pre x li W ⟨hi, hl, hk⟩ hx hlen
    have hlt : w.heap.size + 1 < W.heap.size := (Array.getElem?_eq_some_iff.1 hl).1
    have hy : (Instr.yield (w.heap.size + 1) #[x]).run Tryz.prog W = .ok (.round (w.heap.size + 1) fn (a.tmps.setIfInBounds p1 x) assign body) W := by
      have h := run_yield (P := Tryz.prog) (args := #[x]) hl (by rw [hrec]; rfl)
      rw [hrec] at h
      simpa using h
    refine ⟨fn, _, assign, body, hy, roundIn_of_wpIn hfn (hassign _ x W _ ?_)⟩
    refine ⟨_, run_beginRound hl (by rw [hrec]), ?_⟩
    have hl2 : (W.putObj (w.heap.size + 1) (.loop { rec .ready with state := .busy })).heap[w.heap.size + 1]? = some (.loop { rec .ready with state := .busy }) := World.putObj_heap_same hlt
    have hk2 : (W.putObj (w.heap.size + 1) (.loop { rec .ready with state := .busy })).heap[w.heap.size]? = some (.deferred (some [])) := (World.putObj_heap_other (by omega)).trans hk
    have hsk2 : SK W (W.putObj (w.heap.size + 1) (.loop { rec .ready with state := .busy })) := SK.putObj _ hl rfl
    refine wpIn_mono (hbody _ pre x li _ (hIO _ _ _ _ _ hi (by omega) hl rfl) (hx.sk hsk2) hlen) ?_
    intro e a3 W3 hp3
    cases e with
    | normal =>
      obtain ⟨h1, h2, h3⟩ := hp3
      have hl3 := h1.same _ _ (by omega) hl2 rfl
      have hk3 := h1.same _ _ (Nat.le_refl _) hk2 rfl
      have hend := run_endRound (P := Tryz.prog) none hl3
      rw [hrec] at hend
      refine ⟨_, _, hend, rfl, ⟨hIO _ _ _ _ _ h3 (by omega) hl3 rfl, ?_, (World.putObj_heap_other (by omega)).trans hk3⟩, (hsk2.trans h2).trans (SK.putObj _ hl3 rfl)⟩
      rw [World.putObj_heap_same (Array.getElem?_eq_some_iff.1 hl3).1, hrec]
      rfl
    | ret => exact hp3.elim
    | exit id => exact hp3.elim
    | goto t => exact hp3.elim
    | panic c => exact hp3.elim
    | outgrown => exact hp3.elim
  · rintro e W2 ⟨⟨u, rfl⟩, pre, hpre, hi, hl, hk⟩
    have hend : (Instr.endLoop (w.heap.size + 1)).run Tryz.prog W2 = .ok none (W2.putObj (w.heap.size + 1) (.loop { rec .ready with state := .exhausted })) := by
      have h := run_endLoop (P := Tryz.prog) hl (by rw [hrec]; simp)
      rw [hrec] at h ⊢
      exact h
    exact ⟨none, _, hend, hdone _ pre _ (Nat.le_refl _) hpre (hIO _ _ _ _ _ hi (by omega) hl rfl) ((World.putObj_heap_other (by omega)).trans hk)⟩

end Go.Proofs.YtffndcjmabjhiaaGreatDoor

namespace Go.Proofs.YtffndcjmabjhiaaGreatDoor
open Go.RowKit Num
open Go.Shelf
attribute [local go_sem] Oper.semAt_some

theorem wpListIn_app_p {F : Fence} {n : Nat} {ops : Array Oper} {rest : List Oper} {o : Oper} {a : Act} {Q : Exit → Act → World → Prop} (hg : o.guard = none) (s x : Operand) {t : TypeId} (ht : Tryz.prog.underlying t = some (.slice 119))
    (hop : o.op = Op.call { callee := Callee.builtin Builtin.append, args := #[s, x], argTypes := #[t, t] }) {W : World} {B : Nat} {v u : Value} {vs : List Value} (hs : a.eval s = v) (h : RowP W B v vs) (hu : SlV u) (ad : Addr) (hx : a.eval x = .slice (some ad) 1 1)
    (hn : W.cell? ad = some u) (hl : vs.length ≤ 1000) (hB : B ≤ W.heap.size)
    (hK : ∀ v' W', RowP W' B v' (vs ++ [u]) → W.grownBy W' v.ownBlock → wpListIn F n Tryz.prog ops Q rest (a.put o.dst v') W') : wpListIn F n Tryz.prog ops Q (o :: rest) a W := by
  refine wpListIn_plain hg fun K hK' => ?_
  obtain ⟨v', W', hrun, r1, r2⟩ := run_app_p t o.type ht h hu ad hn hl hB
  unfold Oper.wpIn
  refine ⟨?_, ?_⟩
  · simp [Oper.about, hop, resolve, Target.leads, Sem.run_pure]
  · rw [Oper.semAt_plain F _ _ (by rw [hop]; intro c hc'; cases hc')]
    simp [execOp, hop, resolve, invoke, builtin, hs, hx, hrun, Result.andThen]
    exact hK' _ _ (hK v' W' r1 r2)

/-- What stands in memory between two rounds. -/
def ApI (w : World) (pre : List (Value × List Rat)) (W : World) : Prop :=
  Below w.heap.size w W ∧ (∃ v, Blk W w.heap.size 95 [v] ∧ RowP W (w.heap.size + 1) v (pre.map Prod.fst)) ∧ (∀ x ∈ pre, Pv W x.1 x.2) ∧ pre.length ≤ 100
theorem RowP.slv {W : World} {B : Nat} {v : Value} {vs : List Value} (h : RowP W B v vs) : SlV v := by
  rcases h with ⟨rfl, -⟩ | ⟨g, cap, cur, rfl, -⟩
  · exact ⟨_, _, _, rfl⟩
  · exact ⟨_, _, _, rfl⟩
theorem noStrV {W : World} {Q : Nat} {T : TypeId} {v : Value} (h : Blk W Q T [v]) (hv : SlV v) : NoStr W Q := fun k s hc => by
  have := blk_one h hc
  subst this
  obtain ⟨A, n, c, e⟩ := hv
  cases e
theorem chain_len : ∀ (n : Nat) {l m : List Rat} {t : List (List Rat)}, chainO n l m = some t → 0 < t.length ∧ t.length ≤ n
  | 0, l, m, t, h => by cases h
  | n + 1, l, m, t, h => by
    by_cases hm : m = []
    · subst hm; rw [chain_end h]; simp
    · obtain ⟨r, k, _, h2, rfl⟩ := chain_step h hm
      have := chain_len n h2
      simp; omega
theorem sturm_len {p : List Rat} {ls : List (List Rat)} (h : sturmO p = some ls) : 0 < ls.length ∧ ls.length ≤ 14 := by
  obtain ⟨s, h1, h2⟩ := Option.bind_eq_some_iff.1 h
  exact chain_len 14 h2
theorem ApI.cv {w W : World} {pre : List (Value × List Rat)} (h : ApI w pre W) (h0 : 0 < pre.length) : ∃ c, (∃ v, Blk W w.heap.size 95 [v] ∧ v = c) ∧ Cv W c (pre.map Prod.snd) ∧ (∀ k, c.ownBlock = some k → w.heap.size ≤ k) := by
  obtain ⟨-, ⟨v, hb, hr⟩, hp, hl⟩ := h
  refine ⟨v, ⟨v, hb, rfl⟩, ⟨by simp; omega, ?_⟩, fun k hk => by have := (hr.lt hk).1; omega⟩
  rcases hr with ⟨-, he⟩ | ⟨g, cap, cur, rfl, hB, hg, hn, hc, hs, ht, -⟩
  · have := congrArg List.length he
    simp at this
    rw [this] at h0; simp at h0
  · refine ⟨g, cap, by simp, fun j hj => ?_⟩
    have hj' : j < pre.length := by simpa using hj
    refine ⟨(pre[j]).1, ?_, ?_⟩
    · have h1 : (pre.map Prod.fst)[j]? = some (pre[j]).1 := by rw [List.getElem?_map, List.getElem?_eq_getElem hj']; rfl
      rw [← ht, List.getElem?_take_of_lt (by simpa using hj')] at h1
      simpa [World.cell?, hg] using h1
    · have h2 : (pre.map Prod.snd).getD j [] = (pre[j]).2 := by rw [List.getD_eq_getElem?_getD, List.getElem?_map, List.getElem?_eq_getElem hj']; rfl
      rw [h2]
      exact hp _ (List.getElem_mem hj')
theorem ApI.below {w W W' : World} {pre : List (Value × List Rat)} (h : ApI w pre W) (hb : Below W.heap.size W W') : ApI w pre W' := by
  obtain ⟨h1, ⟨v, h2, h3⟩, h4, h5⟩ := h
  exact ⟨below_up h1 hb, ⟨v, h2.below hb, h3.kept (row := none) ⟨hb.os, hb.tape, hb.output, hb.size, fun j hj _ => hb.block j hj⟩ (by cases v.ownBlock <;> simp)⟩, fun x hx => (h4 x hx).below hb, h5⟩
theorem ApI.obj {w W : World} {pre : List (Value × List Rat)} (h : ApI w pre W) {l : Nat} {o : Obj} (o' : Obj) (hl : w.heap.size ≤ l) (ho : W.heap[l]? = some o) (hc : o.isCells = false) : ApI w pre (W.putObj l o') := by
  obtain ⟨h1, ⟨v, h2, h3⟩, h4, h5⟩ := h
  refine ⟨h1.grown (grownBy_putObj' W l o') h1.size (fun k e => by cases e; exact hl), ⟨v, h2.block (World.putObj_heap_other (fun e => ?_)), h3.kept (grownBy_putObj' W l o') (h3.ne ho (fun cur e => by subst e; cases hc))⟩, fun x hx => (h4 x hx).sk (SK.putObj o' ho hc), h5⟩
  have h6 : W.heap[l]? = some _ := e ▸ h2
  rw [ho] at h6; cases h6; cases hc

set_option maxHeartbeats 2000000 in
set_option maxRecDepth 100000 in
theorem append_chain (n : Nat) (hn : 3 ≤ n) {Bp : Nat} {v : Value} {p : List Rat} {ls : List (List Rat)} (w : World) (hBp : w.cell? ⟨Bp, 0, none⟩ = some v) (hv : Pv w v p) (hp : p.length ≤ 13) (hs : sturmO p = some ls) (hL : Laid w) :
    CallsIn Fence.wide n Tryz.prog 229 #[.slice none 0 0, .func (.func 230) #[] #[.pointer (some ⟨Bp, 0, none⟩)]] w
      (fun e w' => ∃ c, e = .returned c ∧ Cv w' c ls ∧ Below w.heap.size w w' ∧ (∀ k, c.ownBlock = some k → w.heap.size ≤ k)) := by
  have hlen := sturm_len hs
  refine callsIn_of_wp_marks Tryz.func229 rfl trivial ?_ rfl
  simp only [Tryz.ntmps229, List.size_toArray, List.length_cons, List.length_nil, Nat.reduceAdd, Nat.reduceSub, Array.replicate_succ, Array.replicate_zero, List.push_toArray, List.append_toArray, List.nil_append, List.cons_append]
  gi_wp2
  have hb0 := below1 w (.cells #[.slice none 0 0] 95)
  have Bx := Blk.new w 95 [.slice none 0 0]
  obtain ⟨W0, hW0⟩ : ∃ W0, w.alloc (.cells #[.slice none 0 0] 95) = W0 := ⟨_, rfl⟩
  have hBx : Blk W0 w.heap.size 95 [.slice none 0 0] := hW0 ▸ Bx
  rw [hW0] at hb0 ⊢
  clear hW0 Bx
  refine range_chain (by omega) (Bp := Bp) (v := v) (p := p) (ls := ls) rfl ((hb0.cell (cell_lt hBp)).trans hBp) (hv.below hb0) hp hs (ApI w) (fun pre W h => hL.below h.1) (fun pre W W' h hb => h.below hb)
    (fun pre W l o o' h hl ho hc => h.obj o' (Nat.le_trans hb0.size hl) ho hc) (⟨hb0, ⟨_, hBx, RowP.nil _ _⟩, (fun x hx => by simp at hx), by simp⟩ : ApI w [] W0)
    (fun x => { tmps := #[.slice none 0 0, .func (.func 230) #[] #[.pointer (some ⟨Bp, 0, none⟩)], .pointer (some ⟨w.heap.size, 0, none⟩), undef, .slice none 0 0, x, .func (.func 230) #[] #[.pointer (some ⟨Bp, 0, none⟩)], x, undef, undef, undef, undef, undef], defers := [] }) ?assign ?body ?done
  case assign =>
    intro l x W K hK
    gi_wp2
    exact hK
  case body =>
    rintro l pre x li W ⟨h1, ⟨u, h2, h3⟩, h4, h5⟩ hx hlen14
    have hBl := hBx.lt
    have hWl := h2.lt
    have hsl := hx.slv
    have HX := Lib.hid hx
    obtain ⟨Ax, cx, rfl, -, -, -⟩ := hx
    have h3a : RowP (W.alloc (.cells #[.slice Ax li.length cx] 119)) (w.heap.size + 1) u (pre.map Prod.fst) := h3.kept (World.grownBy_alloc W _ none) (by cases u.ownBlock <;> simp)
    have h2a := h2.alloc (.cells #[.slice Ax li.length cx] 119)
    have hxa := (Blk.new W 119 [.slice Ax li.length cx]).cell 0 (v := .slice Ax li.length cx) rfl
    have hne : u.ownBlock ≠ some w.heap.size := fun e => by have := (h3.lt e).1; omega
    have k0 := h2.cell 0 (v := u) rfl
    have k1 := h2a.cell 0 (v := u) rfl
    have H3A := Lib.hid h3a
    have H3 := Lib.hid h3
    have H4 := Lib.hid h4
    have HN := Lib.hid hne
    obtain ⟨Au, nu, cu, hu⟩ := h3.slv
    have HU := Lib.hid hu
    clear hu h3a h3 h4 hne
    gi_wp2_with (gi_at_builtin; refine wpListIn_app_p rfl (.tmp 8) (.tmp 10) Tryz.underlying95 rfl (W := W.alloc (.cells #[.slice Ax li.length cx] 119)) (B := w.heap.size + 1) (vs := pre.map Prod.fst) rfl H3A.out hsl ⟨W.heap.size, 0, none⟩ rfl hxa (by simp; omega) (by have := h1.size; simp; omega) ?_; intro v' w3 hR3 hg3; obtain ⟨Av, nv, cv, rfl⟩ := hR3.slv; have hR3H := Lib.hid hR3; have hg3H := Lib.hid hg3; have h2b : Blk w3 w.heap.size 95 [u] := h2a.block (hg3.block _ (by simp; omega) (fun e => HN.out e.symm)); have k3 := h2b.cell 0 (v := u) rfl; have f3 := h2b.frozen 0; clear hR3 hg3; go_frame)
    have hR3 := hR3H.out
    have hg3 : (W.alloc (.cells #[.slice Ax li.length cx] 119)).grownBy w3 u.ownBlock := hg3H.out
    have hns : NoStr w3 w.heap.size := noStrV h2b ⟨Au, nu, cu, HU.out⟩
    have hk : SK W (w3.setCell ⟨w.heap.size, 0, none⟩ (.slice Av nv cv)) := (SK.of_below (below1 W _)).trans ((SK.of_grown hg3 (fun Q e => H3A.out.noStr e)).trans (SK.setCell (.slice Av nv cv) hns))
    refine ⟨⟨?_, ?_⟩, hk, ?_, ⟨.slice Av nv cv, h2b.set 0 (.slice Av nv cv), ?_⟩, ?_, ?_⟩
    · have := hg3.size
      rw [World.size_alloc] at this
      simp [World.setCell]
      omega
    · intro k o hk0 hko hkc
      have hklt : k < W.heap.size := (Array.getElem?_eq_some_iff.1 hko).1
      refine (Below.heap_setCell _ _ _ _ (show k ≠ w.heap.size by omega)).trans ((hg3.block k (by simp; omega) (fun e => ?_)).trans ((Below.heap_alloc _ _ k hklt).trans hko))
      rcases H3.out.ne hko (fun cur e => by subst e; cases hkc) with e1 | e1
      · rw [e1] at e; cases e
      · exact e1 e.symm
    · exact (((h1.alloc h1.size _).grown hg3 (by have := h1.size; simp; omega) (fun k e => by have := (H3.out.lt e).1; omega))).setCell (Nat.le_refl _) (.slice Av nv cv)
    · rw [List.map_append]
      exact hR3.kept (grownBy_setCell' w3 w.heap.size (.slice Av nv cv)) (by
        cases hv : (Value.slice Av nv cv).ownBlock with
        | none => exact .inl rfl
        | some k => exact .inr (fun e => by have := (hR3.lt hv).1; cases e; omega))
    · intro y hy
      rcases List.mem_append.1 hy with hy | hy
      · exact (H4.out y hy).sk hk
      · rw [List.mem_singleton] at hy; subst hy; exact HX.out.sk hk
    · simp; omega
  case done =>
    rintro D pre W hD hpre hI hK
    have hpl : 0 < pre.length := by have := congrArg List.length hpre; simp at this; omega
    obtain ⟨c, ⟨u, hbu, rfl⟩, hcv, hown⟩ := hI.cv hpl
    have HOW := Lib.hid hown
    rw [hpre] at hcv
    have hIb := hI.1
    have k0 := hbu.cell 0 (v := u) rfl
    have HCV := Lib.hid hcv
    clear hpre hcv hI hBx hown
    gi_wp2
    refine ⟨by simp, .inl ⟨_, _, rfl, run_takeDeferred hK, ?_⟩⟩
    refine ⟨_, results_tmp rfl _ _ _, u, rfl, ?_, below_mark hIb (Nat.le_refl _) (by have := hb0.size; omega), HOW.out⟩
    obtain ⟨hm, g, c', hu, hy⟩ := HCV.out
    refine ⟨hm, g, c', hu, fun j hj => ?_⟩
    obtain ⟨y, h1, h2⟩ := hy j hj
    exact ⟨y, cell_mark hK h1, h2.sk (SK.putObj _ hK rfl)⟩

/-- The call returns a chain. -/
def RetC (w : World) (ls : List (List Rat)) (e : Ending) (w' : World) : Prop := ∃ c, e = .returned c ∧ Cv w' c ls ∧ Below w.heap.size w w' ∧ (∀ k, c.ownBlock = some k → w.heap.size ≤ k)
theorem sturm_any {A : Option Addr} {n c : Nat} (w : World) : Calls Tryz.prog 150 #[.slice A n c] w (fun e w' => e = .returned (.func (.func 230) #[] #[.pointer (some ⟨w.heap.size, 0, none⟩)]) ∧ w' = w.alloc (.cells #[.slice A n c] 119)) := by
  have hmf : ∀ (fn : Fn) (first cap : Array Value) (w : World), (Instr.makeFunc fn first cap).run Tryz.prog w = .ok (.func fn first cap) w := fun _ _ _ _ => rfl
  go_enter Tryz.func150, Tryz.ntmps150
  go_wp2
  go_ret
  exact ⟨rfl, rfl⟩
set_option maxRecDepth 100000 in
theorem collect_any {Bp : Nat} {v : Value} {p : List Rat} {ls : List (List Rat)} (w : World) (hBp : w.cell? ⟨Bp, 0, none⟩ = some v) (hv : Pv w v p) (hp : p.length ≤ 13) (hs : sturmO p = some ls) (hL : Laid w) :
    Calls Tryz.prog 149 #[.func (.func 230) #[] #[.pointer (some ⟨Bp, 0, none⟩)]] w (RetC w ls) := by
  have C := Lib.hid ((callsIn_wide (n := 6)).1 (append_chain 6 (by omega) w hBp hv hp hs hL))
  clear hBp hv hp hs hL
  go_enter Tryz.func149, Tryz.ntmps149
  go_wp2_with (go_at_call 229; (with_reducible refine C.out.mono ?_); rintro e w1 ⟨c, rfl, hc, hb, ho⟩; have HO := Lib.hid ho; clear ho)
  go_ret
  exact ⟨c, rfl, hc, hb, HO.out⟩

end Go.Proofs.YtffndcjmabjhiaaGreatDoor
