/- Arguments that are arrays of integers, or fractions: as data, opened and shut. -/
import Derived.Test.YtnioinccflmdjaaGreatDoorK15
import Derived.Lib.SmallJoins
import Derived.Laws.IdiomArrays
namespace Go.Proofs.YtnioinccflmdjaaGreatDoor
open Go Go.ChangeShapes Go.WideShapes Go.ChangeAt Go.RowKit

section
variable {H : Type} {enc : TypeId × Value → H} {P : Program} {w : World} {base : Nat} {spare : Nat → Bool} {held : Bool}
theorem okWide_array {n : Nat} {e : TypeId} {r : Reach} {b0 : Nat} {t : TypeId} {v : Value} (ht : P.underlying t = some (.array n e)) (h : Value.okWide P w r b0 t v) : ∃ cs, v = .agg cs ∧ cs.size = P.cellsOf t := by
  simp only [Value.okWide, ht] at h
  obtain ⟨cs, h1, h2, _⟩ := h
  exact ⟨cs, h1, h2⟩
theorem size2 {cs : Array Value} (h : cs.size = 2) : ∃ a b, cs = #[a, b] := by
  match cs, h with
  | ⟨[a, b]⟩, _ => exact ⟨a, b, rfl⟩
theorem size4 {cs : Array Value} (h : cs.size = 4) : ∃ a b c d, cs = #[a, b, c, d] := by
  match cs, h with
  | ⟨[a, b, c, d]⟩, _ => exact ⟨a, b, c, d, rfl⟩
theorem trod_array2 {t e : TypeId} {fuel : Nat} {c0 c1 : Value} {x : DataW H × List MemPlace} (ht : P.underlying t = some (.array 2 e)) (hce : P.cellsOf e = 1)
    (h : DataW.trod enc P w base spare held fuel t [c0, c1] = some x) :
    ∃ y0 y1 n, x = (.agg [y0.1, y1.1], y0.2 ++ y1.2) ∧ DataW.trod enc P w base spare held n e [c0] = some y0 ∧ DataW.trod enc P w base spare held n e [c1] = some y1 := by
  cases fuel with
  | zero => simp [DataW.trod] at h
  | succ n =>
    unfold DataW.trod at h
    rw [ht] at h
    have r2 : List.range 2 = [0, 1] := rfl
    simp [r2, hce] at h
    obtain ⟨_, h⟩ := h
    cases h0 : DataW.trod enc P w base spare held n e [c0] with
    | none => simp [h0] at h
    | some y0 =>
      cases h1 : DataW.trod enc P w base spare held n e [c1] with
      | none => simp [h0, h1] at h
      | some y1 =>
        simp [h0, h1] at h
        exact ⟨y0, y1, n, h.symm, h0, h1⟩
theorem open_arr2 {r : Reach} {b0 : Nat} {t e : TypeId} {k : IntKind} {v : Value} {d : DataW H} {ps : List MemPlace} (ht : P.underlying t = some (.array 2 e)) (he : P.underlying e = some (.int k)) (hce : P.cellsOf e = 1) (hC : P.cellsOf t = 2)
    (hval : Value.okWide P w r b0 t v) (hd : DataW.Trod enc P w base spare held t v d ps) :
    ∃ x0 x1 : Int, v = .agg #[.int k x0, .int k x1] ∧ d = .agg [.lit (.int k x0), .lit (.int k x1)] ∧ ps = [] ∧ (Lit.int k x0).wf = true ∧ (Lit.int k x1).wf = true := by
  obtain ⟨cs, rfl, hsz⟩ := okWide_array ht hval
  obtain ⟨c0, c1, rfl⟩ := size2 (hsz.trans hC)
  obtain ⟨fuel, hf⟩ := hd
  obtain ⟨y0, y1, n, hx, h0, h1⟩ := trod_array2 ht hce hf
  obtain ⟨n0, e0, rfl, w0⟩ := DataW.trod_int he h0
  obtain ⟨n1, e1, rfl, w1⟩ := DataW.trod_int he h1
  simp only [List.cons.injEq, and_true] at e0 e1
  subst e0 e1
  simp only [Prod.mk.injEq] at hx
  exact ⟨n0, n1, rfl, hx.1, by simpa using hx.2, w0, w1⟩
theorem open_arr4 {r : Reach} {b0 : Nat} {t e : TypeId} {k : IntKind} {v : Value} {d : DataW H} {ps : List MemPlace} (ht : P.underlying t = some (.array 4 e)) (he : P.underlying e = some (.int k)) (hce : P.cellsOf e = 1) (hC : P.cellsOf t = 4)
    (hval : Value.okWide P w r b0 t v) (hd : DataW.Trod enc P w base spare held t v d ps) :
    ∃ x0 x1 x2 x3 : Int, v = .agg #[.int k x0, .int k x1, .int k x2, .int k x3] ∧ d = .agg [.lit (.int k x0), .lit (.int k x1), .lit (.int k x2), .lit (.int k x3)] ∧ ps = [] ∧ (Lit.int k x0).wf = true ∧ (Lit.int k x1).wf = true ∧ (Lit.int k x2).wf = true ∧ (Lit.int k x3).wf = true := by
  obtain ⟨cs, rfl, hsz⟩ := okWide_array ht hval
  obtain ⟨c0, c1, c2, c3, rfl⟩ := size4 (hsz.trans hC)
  obtain ⟨fuel, hf⟩ := hd
  obtain ⟨y0, y1, y2, y3, n, hx, h0, h1, h2, h3⟩ := trod_array4 ht hce hf
  obtain ⟨n0, e0, rfl, w0⟩ := DataW.trod_int he h0
  obtain ⟨n1, e1, rfl, w1⟩ := DataW.trod_int he h1
  obtain ⟨n2, e2, rfl, w2⟩ := DataW.trod_int he h2
  obtain ⟨n3, e3, rfl, w3⟩ := DataW.trod_int he h3
  simp only [List.cons.injEq, and_true] at e0 e1 e2 e3
  subst e0 e1 e2 e3
  simp only [Prod.mk.injEq] at hx
  exact ⟨n0, n1, n2, n3, rfl, hx.1, by simpa using hx.2, w0, w1, w2, w3⟩
theorem shut_arr2 {t e : TypeId} {k : IntKind} {x0 x1 : Int} (ht : P.underlying t = some (.array 2 e)) (he : P.underlying e = some (.int k)) (hce : P.cellsOf e = 1) (hC : P.cellsOf t = 2) (w0 : (Lit.int k x0).wf = true) (w1 : (Lit.int k x1).wf = true) :
    DataW.Trod enc P w base spare held t (.agg #[.int k x0, .int k x1]) (.agg [.lit (.int k x0), .lit (.int k x1)]) [] :=
  ⟨2, by simp [DataW.trod, Value.cells, ht, he, hce, hC, w0, w1, List.range, List.range.loop]⟩
theorem shut_arr4 {t e : TypeId} {k : IntKind} {x0 x1 x2 x3 : Int} (ht : P.underlying t = some (.array 4 e)) (he : P.underlying e = some (.int k)) (hce : P.cellsOf e = 1) (hC : P.cellsOf t = 4) (w0 : (Lit.int k x0).wf = true) (w1 : (Lit.int k x1).wf = true) (w2 : (Lit.int k x2).wf = true) (w3 : (Lit.int k x3).wf = true) :
    DataW.Trod enc P w base spare held t (.agg #[.int k x0, .int k x1, .int k x2, .int k x3]) (.agg [.lit (.int k x0), .lit (.int k x1), .lit (.int k x2), .lit (.int k x3)]) [] :=
  ⟨2, by simp [DataW.trod, Value.cells, ht, he, hce, hC, w0, w1, w2, w3, List.range, List.range.loop]⟩
end

end Go.Proofs.YtnioinccflmdjaaGreatDoor
