/- Div of package poly: where nothing fails, and where the divisor is empty. Conditions: the tables of strconv; the polynomials are valid. Div of package poly. Conditions: the tables of strconv; the polynomials are valid. Div of package poly where the divisor is empty. Conditions: the tables of strconv; the dividend is valid. -/
import Derived.Test.YtffndcjmabjhiaaGreatDoorM7
import Derived.Test.YtffndcjmabjhiaaGreatDoorM4
namespace Go.Proofs.YtffndcjmabjhiaaGreatDoor
open Go.RowKit Num
open Go.Shelf

/-- A block that holds no string. -/
def NoStr (W : World) (Q : Nat) : Prop := ∀ k s, W.cell? ⟨Q, k, none⟩ ≠ some (.string s)
theorem Pv.apart {W : World} {v : Value} {l : List Rat} (h : Pv W v l) {Q : Nat} (hq : NoStr W Q) (j : Nat) (u : Value) : Pv (W.setCell ⟨Q, j, none⟩ u) v l := by
  obtain ⟨A, c, hv, hc, hm, hx⟩ := h
  refine ⟨A, c, hv, hc, hm, fun h0 => ?_⟩
  obtain ⟨b, o, hA, hy⟩ := hx h0
  have hne : b ≠ Q := fun e => by
    have h1 := (hy 0 h0).1
    rw [e] at h1
    exact hq _ _ h1
  have hb : (W.setCell ⟨Q, j, none⟩ u).heap[b]? = W.heap[b]? := Below.heap_setCell _ _ _ _ hne
  exact ⟨b, o, hA, fun j hj => ⟨(World.cell?_of_block (w := W) (a := ⟨b, o + j * 2, none⟩) hb).trans (hy j hj).1, (World.cell?_of_block (w := W) (a := ⟨b, o + j * 2 + 1, none⟩) hb).trans (hy j hj).2⟩⟩
theorem noStr1 {W : World} {Q : Nat} {T : TypeId} {x : Int} (h : Blk W Q T [.int .i64 x]) : NoStr W Q := fun k s hc => by
  have := blk_one h hc; cases this
theorem noStr2 {W : World} {Q : Nat} {T : TypeId} {A A' : Option Addr} {n c n' c' : Nat} (h : Blk W Q T [.slice A n c, .slice A' n' c']) : NoStr W Q := fun k s hc => by
  match k with
  | 0 => have := (h.cell 0 rfl).symm.trans hc; cases this
  | 1 => have := (h.cell 1 rfl).symm.trans hc; cases this
  | k + 2 =>
    unfold Blk at h
    simp [World.cell?, h] at hc
/-- The call returns a quotient, a remainder and no error. -/
def RetPE (w : World) (p q : List Rat) (e : Ending) (w' : World) : Prop := ∃ a b, e = .returned (.tuple #[.agg #[a, b], .int .i64 0]) ∧ Pv w' a p ∧ Pv w' b q ∧ Below w.heap.size w w'

set_option maxHeartbeats 2000000 in
set_option maxRecDepth 100000 in
theorem try_p {G : FuncId} {caps : Array Value} {r s : List Rat} {gl n : Nat} (w : World) (eg : ∀ args w, (callFunc G args).run Tryz.prog w = .ok (.enter G args) w) (hn : n ≤ 1000) (hv : AllV w gl n)
    (hf : ∀ W, Below w.heap.size w W → Calls Tryz.prog G caps W (RetP2 W r s)) (hL : Laid w) :
    Calls Tryz.prog 74 #[.func (.func G) #[] caps, .slice (some ⟨gl, 0, none⟩) n n] w (RetPE w r s) := by
  have HV := Lib.hid hv
  have HL0 := Lib.hid hL
  have HF := Lib.hid hf
  have M := Lib.hid (fun w => must_true w)
  clear hv hf
  have b1 := below_up (below1 w (.cells #[.slice none 0 0, .slice none 0 0] 125)) (below1 _ (.cells #[.int .i64 0] 31))
  have Br := (Blk.new w 125 [.slice none 0 0, .slice none 0 0]).alloc (.cells #[.int .i64 0] 31)
  have Be := Blk.new2 w (.cells #[.slice none 0 0, .slice none 0 0] 125) 31 [.int .i64 0]
  go_enter_defers Tryz.func74, Tryz.ntmps74
  go_wp2
  go_loopg [10] n (fun k s10 wr => ∃ i : Nat, s10 = .int .i64 i ∧ i ≤ n ∧ n ≤ k + i ∧ Blk wr w.heap.size 125 [.slice none 0 0, .slice none 0 0] ∧ Blk wr (w.heap.size + 1) 31 [.int .i64 0] ∧ Below w.heap.size w wr)
  case atStart => exact ⟨0, rfl, by omega, by omega, Br, Be, b1⟩
  case round =>
    clear Be Br b1
    obtain ⟨i, rfl, hi, hk, Br, Be, hB⟩ := hrel
    by_cases hg : i < n
    · have hgi : (i : Int) < n := by omega
      obtain ⟨v, l, hc, hp, hl, hnt⟩ := HV.out i hg
      have C := pvalid_any wr (hp.below hB) hl (HL0.out.below hB)
      rw [ntB_true hnt] at C
      have CV := Lib.hid C
      have k0 := (hB.cell (cell_lt hc)).trans hc
      clear C hc hp hl hnt
      go_wp2_with (first
        | (go_at_call 43; (with_reducible refine CV.out.mono ?_); rintro e w1 ⟨rfl, hb⟩; replace Br := Br.below hb; replace Be := Be.below hb; replace hB := below_up hB hb; clear hb)
        | (go_at_call 53; refine (M.out _).mono ?_; rintro e w' ⟨rfl, hw⟩; rw [hw]; clear hw))
      all_goals go_roundg (n - (i + 1))
      all_goals first | omega | exact ⟨i + 1, by go_num, by omega, by omega, Br, Be, hB⟩
    · obtain rfl : i = n := by omega
      have HC := Lib.hid (HF.out wr hB)
      go_wp2_with (go_at_fn G; refine HC.out.mono ?_; rintro e w1 ⟨xa, xb, rfl, ha, hb', hb⟩; have HA := Lib.hid ha; have HBB := Lib.hid hb'; obtain ⟨A1, c1, rfl, -, -, -⟩ := ha; obtain ⟨A2, c2, rfl, -, -, -⟩ := hb'; replace Be := Be.below hb; replace Br := Br.below hb; replace hB := below_up hB hb; clear hb; have e0 := Be.cell 0 (v := .int .i64 0) rfl; have f0 := Be.frozen 0; have r0 := Br.cell 0 (v := .slice none 0 0) rfl; have r1 := Br.cell 1 (v := .slice none 0 0) rfl; have g0 := Br.frozen 0; have g1 := Br.frozen 1)
      have Be1 := (Be.other (B := w.heap.size) (by omega) 0 (.slice A1 r.length c1)).other (B := w.heap.size) (by omega) 1 (.slice A2 s.length c2)
      have Be2 := Be1.set 0 (.int .i64 0)
      have Br1 := Br.set 0 (.slice A1 r.length c1)
      have Br2 := (Br1.set 1 (.slice A2 s.length c2)).other (B := w.heap.size + 1) (by omega) 0 (.int .i64 0)
      have e1 := Be2.cell 0 (v := .int .i64 0) rfl
      have q0 := Br2.cell 0 (v := .slice A1 r.length c1) rfl
      have q1 := Br2.cell 1 (v := .slice A2 s.length c2) rfl
      refine leaves_cons (f := 148) (args := #[.pointer (some ⟨w.heap.size + 1, 0, none⟩)]) (by simp) (by simp [go_sem]) ?_
      refine (failed_idle ⟨w.heap.size + 1, 0, none⟩ _).mono ?_
      rintro e u' w'' ⟨rfl, rfl, rfl⟩
      simp [Leaves, settle, results, Tryz.results74, go_sem, e1, q0, q1]
      exact ⟨_, _, rfl, ((HA.out.apart (noStr2 Br) 0 _).apart (noStr2 Br1) 1 _).apart (noStr1 Be1) 0 _, ((HBB.out.apart (noStr2 Br) 0 _).apart (noStr2 Br1) 1 _).apart (noStr1 Be1) 0 _, ((hB.setCell (by dsimp; omega) _).setCell (by dsimp; omega) _).setCell (by dsimp; omega) _⟩

end Go.Proofs.YtffndcjmabjhiaaGreatDoor

namespace Go.Proofs.YtffndcjmabjhiaaGreatDoor
open Go.RowKit Num
open Go.Shelf

set_option maxRecDepth 100000 in
theorem cl_div {v u : Value} {p q r s : List Rat} {B2 B3 : Nat} (W : World) (h2 : W.cell? ⟨B2, 0, none⟩ = some v) (h3 : W.cell? ⟨B3, 0, none⟩ = some u) (hv : Pv W v p) (hu : Pv W u q) (hp : p.length ≤ 13) (hr : byO p q = some (r, s)) (hL : Laid W) :
    Calls Tryz.prog 75 #[.pointer (some ⟨B2, 0, none⟩), .pointer (some ⟨B3, 0, none⟩)] W (RetP2 W r s) := by
  have bz := below1 W (.cells #[.slice none 0 0, .slice none 0 0] 125)
  have C := Lib.hid (pby_any _ (hv.below bz) (hu.below bz) hp hr (hL.below bz))
  have Bz := Blk.new W 125 [.slice none 0 0, .slice none 0 0]
  have k2 := (bz.cell (cell_lt h2)).trans h2
  have k3 := (bz.cell (cell_lt h3)).trans h3
  obtain ⟨A, c, rfl, -, -, -⟩ := hv
  obtain ⟨A', c', rfl, -, -, -⟩ := hu
  clear hr hp
  go_enter Tryz.func75, Tryz.ntmps75
  go_wp2_with (go_at_call 76; (with_reducible refine C.out.mono ?_); rintro e w1 ⟨xa, xb, rfl, ha, hb', hb⟩; have HA := Lib.hid ha; have HBB := Lib.hid hb'; obtain ⟨A1, c1, rfl, -, -, -⟩ := ha; obtain ⟨A2, c2, rfl, -, -, -⟩ := hb'; replace Bz := Bz.below hb; have hB := below_up bz hb; clear hb; have f0 := Bz.frozen 0; have f1 := Bz.frozen 1; have z0 := Bz.cell 0 (v := .slice none 0 0) rfl; have z1 := Bz.cell 1 (v := .slice none 0 0) rfl)
  have Z1 := Bz.set 0 (.slice A1 r.length c1)
  have ZF := Z1.set 1 (.slice A2 s.length c2)
  have e0 := ZF.cell 0 (v := .slice A1 r.length c1) rfl
  have e1 := ZF.cell 1 (v := .slice A2 s.length c2) rfl
  refine bodyPost_ret (v := .agg #[.slice A1 r.length c1, .slice A2 s.length c2]) (by simp [results, Tryz.results75, go_sem, e0, e1]) rfl ⟨_, _, rfl, ?_, ?_, ?_⟩
  · exact (HA.out.apart (noStr2 Bz) 0 _).apart (noStr2 Z1) 1 _
  · exact (HBB.out.apart (noStr2 Bz) 0 _).apart (noStr2 Z1) 1 _
  · exact (hB.setCell (by dsimp; omega) _).setCell (by dsimp; omega) _

/-- The call returns two polynomials and no error. -/
def RetL2 (w : World) (p q : List Rat) (e : Ending) (w' : World) : Prop := ∃ a b, e = .returned (.tuple #[a, b, .int .i64 0]) ∧ Pv w' a p ∧ Pv w' b q ∧ Below w.heap.size w w'
set_option maxHeartbeats 1000000 in
set_option maxRecDepth 100000 in
theorem api_div {v u : Value} {p q r s : List Rat} (w : World) (hv : Pv w v p) (hu : Pv w u q) (hp : Vp p) (hq : Vp q) (hr : byO p q = some (r, s)) (hL : Laid w) :
    Calls Tryz.prog 21 #[v, u] w (RetL2 w r s) := by
  have HV := Lib.hid hv
  have HU := Lib.hid hu
  have hmf : ∀ (fn : Fn) (first cap : Array Value) (w : World), (Instr.makeFunc fn first cap).run Tryz.prog w = .ok (.func fn first cap) w := fun _ _ _ _ => rfl
  have hmixed : Tryz.prog.follows .mixedOrders = true := by kernel_rfl
  obtain ⟨A, c, rfl, -, -, -⟩ := hv
  obtain ⟨A', c', rfl, -, -, -⟩ := hu
  obtain ⟨w3, hw3⟩ : ∃ w3, ((w.alloc (.cells #[.slice A p.length c] 24)).alloc (.cells #[.slice A' q.length c'] 24)).alloc (.cells #[.slice A p.length c, .slice A' q.length c'] 119) = w3 := ⟨_, rfl⟩
  have hb3 : Below w.heap.size w w3 := by rw [← hw3]; exact below_up (below_up (below1 _ _) (below1 _ _)) (below1 _ _)
  have B2 : Blk w3 w.heap.size 24 [.slice A p.length c] := by rw [← hw3]; exact ((Blk.new w _ _).alloc _).alloc _
  have B3 : Blk w3 (w.heap.size + 1) 24 [.slice A' q.length c'] := by rw [← hw3]; exact (Blk.new2 w _ _ _).alloc _
  have B4 : Blk w3 (w.heap.size + 1 + 1) 119 [.slice A p.length c, .slice A' q.length c'] := by rw [← hw3]; exact Blk.new3 w _ _ _ _
  have hall : AllV w3 (w.heap.size + 1 + 1) 2 := fun i hi => by
    obtain rfl | rfl : i = 0 ∨ i = 1 := by omega
    · exact ⟨_, p, B4.cell 0 rfl, HV.out.below hb3, hp.1, hp.2.1⟩
    · exact ⟨_, q, B4.cell 1 rfl, HU.out.below hb3, hq.1, hq.2.1⟩
  have CT := Lib.hid (try_p (G := 75) (caps := #[.pointer (some ⟨w.heap.size, 0, none⟩), .pointer (some ⟨w.heap.size + 1, 0, none⟩)]) (r := r) (s := s) w3 (enters_of Tryz.func75 (by kernel_rfl) rfl) (by omega) hall
    (fun W hb => cl_div W ((B2.below hb).cell 0 rfl) ((B3.below hb).cell 0 rfl) (HV.out.below (below_up hb3 hb)) (HU.out.below (below_up hb3 hb)) hp.1 hr (hL.below (below_up hb3 hb))) (hL.below hb3))
  have HB3 := Lib.hid hb3
  clear B2 B3 B4 hall hp hq hr hb3
  subst hw3
  go_enter Tryz.func21, Tryz.ntmps21
  go_wp2_with (go_at_call 74; (with_reducible refine CT.out.mono ?_); rintro e w1 ⟨xa, xb, rfl, ha, hb', hb⟩; have HA := Lib.hid ha; have HBB := Lib.hid hb'; obtain ⟨A1, c1, rfl, -, -, -⟩ := ha; obtain ⟨A2, c2, rfl, -, -, -⟩ := hb'; have hB := below_up HB3.out hb; clear hb)
  go_region
  all_goals go_wp2
  all_goals go_ret3
  all_goals (have hz := below1 w1 (.cells #[.slice A1 r.length c1, .slice A2 s.length c2] 125); have hz2 := hz.drew)
  all_goals first
    | exact ⟨_, _, rfl, HA.out.below hz2, HBB.out.below hz2, below_up hB hz2⟩
    | exact ⟨_, _, rfl, HA.out.below hz, HBB.out.below hz, below_up hB hz⟩

end Go.Proofs.YtffndcjmabjhiaaGreatDoor

namespace Go.Proofs.YtffndcjmabjhiaaGreatDoor
open Go.RowKit Num
open Go.Shelf

/-- The call panics, as a computation does that stops. -/
def RetF (w : World) (e : Ending) (w' : World) : Prop := e = .panicked [failV] ∧ Below w.heap.size w w'
set_option maxRecDepth 100000 in
theorem by_fail {v : Value} {A' : Option Addr} {c' : Nat} {p : List Rat} (w : World) (hv : Pv w v p) : Calls Tryz.prog 76 #[v, .slice A' 0 c'] w (RetF w) := by
  have M := Lib.hid (fun w => must_false w)
  obtain ⟨A, c, rfl, -, -, -⟩ := hv
  go_enter Tryz.func76, Tryz.ntmps76
  go_wp2_with (go_at_call 53; refine (M.out _).mono ?_; rintro e w' ⟨rfl, hw⟩; rw [hw]; clear hw)
  exact ⟨rfl, rfl, below1 _ _⟩
set_option maxRecDepth 100000 in
theorem cl_div_fail {v : Value} {A' : Option Addr} {c' : Nat} {p : List Rat} {B2 B3 : Nat} (W : World) (h2 : W.cell? ⟨B2, 0, none⟩ = some v) (h3 : W.cell? ⟨B3, 0, none⟩ = some (.slice A' 0 c')) (hv : Pv W v p) :
    Calls Tryz.prog 75 #[.pointer (some ⟨B2, 0, none⟩), .pointer (some ⟨B3, 0, none⟩)] W (RetF W) := by
  have bz := below1 W (.cells #[.slice none 0 0, .slice none 0 0] 125)
  have C := Lib.hid (by_fail (A' := A') (c' := c') _ (hv.below bz))
  have k2 := (bz.cell (cell_lt h2)).trans h2
  have k3 := (bz.cell (cell_lt h3)).trans h3
  obtain ⟨A, c, rfl, -, -, -⟩ := hv
  go_enter Tryz.func75, Tryz.ntmps75
  go_wp2_with (go_at_call 76; (with_reducible refine C.out.mono ?_); rintro e w1 ⟨rfl, hb⟩)
  exact ⟨rfl, rfl, below_up bz hb⟩

set_option maxHeartbeats 2000000 in
set_option maxRecDepth 100000 in
theorem try_p_fail {G : FuncId} {caps : Array Value} {gl n : Nat} (w : World) (eg : ∀ args w, (callFunc G args).run Tryz.prog w = .ok (.enter G args) w) (hn : n ≤ 1000) (hv : AllV w gl n)
    (hf : ∀ W, Below w.heap.size w W → Calls Tryz.prog G caps W (RetF W)) (hL : Laid w) :
    Calls Tryz.prog 74 #[.func (.func G) #[] caps, .slice (some ⟨gl, 0, none⟩) n n] w (fun e w' => e = .returned (.tuple #[.agg #[.slice none 0 0, .slice none 0 0], .int .i64 70]) ∧ Below w.heap.size w w') := by
  have HV := Lib.hid hv
  have HL0 := Lib.hid hL
  have HF := Lib.hid hf
  have M := Lib.hid (fun w => must_true w)
  clear hv hf
  have b1 := below_up (below1 w (.cells #[.slice none 0 0, .slice none 0 0] 125)) (below1 _ (.cells #[.int .i64 0] 31))
  have Br := (Blk.new w 125 [.slice none 0 0, .slice none 0 0]).alloc (.cells #[.int .i64 0] 31)
  have Be := Blk.new2 w (.cells #[.slice none 0 0, .slice none 0 0] 125) 31 [.int .i64 0]
  go_enter_defers Tryz.func74, Tryz.ntmps74
  go_wp2
  go_loopg [10] n (fun k s10 wr => ∃ i : Nat, s10 = .int .i64 i ∧ i ≤ n ∧ n ≤ k + i ∧ Blk wr w.heap.size 125 [.slice none 0 0, .slice none 0 0] ∧ Blk wr (w.heap.size + 1) 31 [.int .i64 0] ∧ Below w.heap.size w wr)
  case atStart => exact ⟨0, rfl, by omega, by omega, Br, Be, b1⟩
  case round =>
    clear Be Br b1
    obtain ⟨i, rfl, hi, hk, Br, Be, hB⟩ := hrel
    by_cases hg : i < n
    · have hgi : (i : Int) < n := by omega
      obtain ⟨v, l, hc, hp, hl, hnt⟩ := HV.out i hg
      have C := pvalid_any wr (hp.below hB) hl (HL0.out.below hB)
      rw [ntB_true hnt] at C
      have CV := Lib.hid C
      have k0 := (hB.cell (cell_lt hc)).trans hc
      clear C hc hp hl hnt
      go_wp2_with (first
        | (go_at_call 43; (with_reducible refine CV.out.mono ?_); rintro e w1 ⟨rfl, hb⟩; replace Br := Br.below hb; replace Be := Be.below hb; replace hB := below_up hB hb; clear hb)
        | (go_at_call 53; refine (M.out _).mono ?_; rintro e w' ⟨rfl, hw⟩; rw [hw]; clear hw))
      all_goals go_roundg (n - (i + 1))
      all_goals first | omega | exact ⟨i + 1, by go_num, by omega, by omega, Br, Be, hB⟩
    · obtain rfl : i = n := by omega
      have HC := Lib.hid (HF.out wr hB)
      go_wp2_with (go_at_fn G; refine HC.out.mono ?_; rintro e w1 ⟨rfl, hb⟩; replace Be := Be.below hb; replace Br := Br.below hb; replace hB := below_up hB hb; clear hb; have e0 := Be.cell 0 (v := .int .i64 0) rfl; have f0 := Be.frozen 0)
      have hbl := below1 w1 (.cells #[] 197)
      have Be2 := (Be.below hbl).set 0 (.int .i64 70)
      have Br2 := (Br.below hbl).other (B := w.heap.size + 1) (by omega) 0 (.int .i64 70)
      have e1 := Be2.cell 0 (v := .int .i64 70) rfl
      have q0 := Br2.cell 0 (v := .slice none 0 0) rfl
      have q1 := Br2.cell 1 (v := .slice none 0 0) rfl
      refine leaves_cons (f := 148) (args := #[.pointer (some ⟨w.heap.size + 1, 0, none⟩)]) (by simp) (by simp [go_sem]) ?_
      refine (failed_caught (w.heap.size + 1) (.int .i64 0) [] w1 e0 f0).mono ?_
      rintro e u' w'' ⟨rfl, rfl, rfl⟩
      simp [Leaves, settle, results, Tryz.results74, go_sem, e1, q0, q1]
      exact (below_up hB hbl).setCell (by dsimp; omega) _
set_option maxHeartbeats 1000000 in
set_option maxRecDepth 100000 in
theorem api_div_fail {v u : Value} {p : List Rat} (w : World) (hv : Pv w v p) (hu : Pv w u []) (hp : Vp p) (hL : Laid w) :
    Calls Tryz.prog 21 #[v, u] w (fun e w' => e = .returned (.tuple #[.slice none 0 0, .slice none 0 0, .int .i64 70]) ∧ Below w.heap.size w w') := by
  have HV := Lib.hid hv
  have HU := Lib.hid hu
  have hmf : ∀ (fn : Fn) (first cap : Array Value) (w : World), (Instr.makeFunc fn first cap).run Tryz.prog w = .ok (.func fn first cap) w := fun _ _ _ _ => rfl
  have hmixed : Tryz.prog.follows .mixedOrders = true := by kernel_rfl
  obtain ⟨A, c, rfl, -, -, -⟩ := hv
  obtain ⟨A', c', rfl, -, -, -⟩ := hu
  obtain ⟨w3, hw3⟩ : ∃ w3, ((w.alloc (.cells #[.slice A p.length c] 24)).alloc (.cells #[.slice A' 0 c'] 24)).alloc (.cells #[.slice A p.length c, .slice A' 0 c'] 119) = w3 := ⟨_, rfl⟩
  have hb3 : Below w.heap.size w w3 := by rw [← hw3]; exact below_up (below_up (below1 _ _) (below1 _ _)) (below1 _ _)
  have B2 : Blk w3 w.heap.size 24 [.slice A p.length c] := by rw [← hw3]; exact ((Blk.new w _ _).alloc _).alloc _
  have B3 : Blk w3 (w.heap.size + 1) 24 [.slice A' 0 c'] := by rw [← hw3]; exact (Blk.new2 w _ _ _).alloc _
  have B4 : Blk w3 (w.heap.size + 1 + 1) 119 [.slice A p.length c, .slice A' 0 c'] := by rw [← hw3]; exact Blk.new3 w _ _ _ _
  have hall : AllV w3 (w.heap.size + 1 + 1) 2 := fun i hi => by
    obtain rfl | rfl : i = 0 ∨ i = 1 := by omega
    · exact ⟨_, p, B4.cell 0 rfl, HV.out.below hb3, hp.1, hp.2.1⟩
    · exact ⟨_, [], B4.cell 1 rfl, HU.out.below hb3, by decide, NT.nil⟩
  have CT := Lib.hid (try_p_fail (G := 75) (caps := #[.pointer (some ⟨w.heap.size, 0, none⟩), .pointer (some ⟨w.heap.size + 1, 0, none⟩)]) w3 (enters_of Tryz.func75 (by kernel_rfl) rfl) (by omega) hall
    (fun W hb => cl_div_fail W ((B2.below hb).cell 0 rfl) ((B3.below hb).cell 0 rfl) (HV.out.below (below_up hb3 hb))) (hL.below hb3))
  have HB3 := Lib.hid hb3
  clear B2 B3 B4 hall hp hb3
  subst hw3
  go_enter Tryz.func21, Tryz.ntmps21
  go_wp2_with (go_at_call 74; (with_reducible refine CT.out.mono ?_); rintro e w1 ⟨rfl, hb⟩; have hB := below_up HB3.out hb; clear hb)
  go_region
  all_goals go_wp2
  all_goals go_ret3
  all_goals (have hz := below1 w1 (.cells #[.slice none 0 0, .slice none 0 0] 125); have hz2 := hz.drew)
  all_goals first
    | exact ⟨rfl, below_up hB hz2⟩
    | exact ⟨rfl, below_up hB hz⟩

end Go.Proofs.YtffndcjmabjhiaaGreatDoor
