/- Arguments that are structs of two strings, or bytes: as data, opened and shut. -/
import Derived.Test.YtnioinccflmdjaaGreatDoorLF3
namespace Go.Proofs.YtnioinccflmdjaaGreatDoor
open Go Go.ChangeShapes Go.WideShapes Go.ChangeAt Go.RowKit Go.Joins

theorem wf8 {n : Int} (h : (Lit.int .u8 n).wf = true) : 0 ≤ n ∧ n ≤ 255 := by
  simpa [Lit.wf, IntKind.min, IntKind.max, IntKind.signed, IntKind.bits] using h
theorem max64 {n : Nat} (h : n ≤ maxLen) : n ≤ 9223372036854775807 := by
  unfold maxLen at h; omega
section
variable {H : Type} {enc : TypeId × Value → H} {P : Program} {w : World} {base : Nat} {spare : Nat → Bool} {held : Bool}
theorem open_rat {r : Reach} {b0 : Nat} {t : TypeId} {f0 f1 : Field} {v : Value} {d : DataW H} {p : List MemPlace} (hs : P.underlying t = some (.struct #[f0, f1])) (hone : Go.Deep.oneCellFields P #[f0, f1] = true) (hC : P.cellsOf t = 2)
    (hs0 : P.underlying f0.type = some .string) (hs1 : P.underlying f1.type = some .string) (hv : Value.okWide P w r b0 t v) (h : DataW.Trod enc P w base spare held t v d p) :
    ∃ x y : ByteArray, v = .agg #[.string x, .string y] ∧ d = .agg [.lit (.string x.data.toList), .lit (.string y.data.toList)] ∧ p = [] ∧ x.size ≤ maxLen ∧ y.size ≤ maxLen := by
  obtain ⟨v0, v1, y0, y1, n, rfl, rfl, rfl, h0, h1⟩ := open_agg2 hs hone hC hv h
  obtain ⟨x, e0, rfl, m0⟩ := DataW.trod_string hs0 h0
  obtain ⟨y, e1, rfl, m1⟩ := DataW.trod_string hs1 h1
  simp only [List.cons.injEq, and_true] at e0 e1
  subst e0 e1
  exact ⟨x, y, rfl, rfl, rfl, m0, m1⟩
theorem shut_rat {t : TypeId} {f0 f1 : Field} {x y : ByteArray} (hs : P.underlying t = some (.struct #[f0, f1])) (hone : Go.Deep.oneCellFields P #[f0, f1] = true) (hC : P.cellsOf t = 2)
    (hs0 : P.underlying f0.type = some .string) (hs1 : P.underlying f1.type = some .string) (m0 : x.size ≤ maxLen) (m1 : y.size ≤ maxLen) :
    DataW.Trod enc P w base spare held t (.agg #[.string x, .string y]) (.agg [.lit (.string x.data.toList), .lit (.string y.data.toList)]) [] := by
  have t0 : ∃ n, DataW.trod enc P w base spare held n f0.type [.string x] = some (.lit (.string x.data.toList), []) := ⟨1, by simp [DataW.trod, hs0, m0]⟩
  have t1 : ∃ n, DataW.trod enc P w base spare held n f1.type [.string y] = some (.lit (.string y.data.toList), []) := ⟨1, by simp [DataW.trod, hs1, m1]⟩
  exact shut_agg2 hs hone hC t0 t1
end

end Go.Proofs.YtnioinccflmdjaaGreatDoor
