/- The frame of the laws' proofs: what the rows' list of variables gives a walk, and what a walk over plain arguments owes the row. Bounds of integers that a row's arguments keep. Arguments that are arrays of integers, or fractions: as data, opened and shut. Arguments that are structs of two strings, or bytes: as data, opened and shut. -/
import Derived.Test.YtffndcjmabjhiaaGreatDoorK4
import Derived.Test.YtffndcjmabjhiaaGreatDoorCards
import Derived.Test.YtffndcjmabjhiaaGreatDoorTie
import Derived.ProofKit
import Derived.OpenShut
import Derived.LaidMore
import Derived.Lay
import Derived.SevenTiedAt
import Derived.Stop.Joined
import Derived.Lib.LaidTab
import Derived.Stop.LaidErr
import Derived.Lib.SmallJoins
import Derived.Laws.IdiomArrays
namespace Go.Proofs.YtffndcjmabjhiaaGreatDoor
open Go Go.ChangeShapes Go.WideShapes Go.ChangeAt Go.RowKit

theorem Tryz.own : ownKnob Tryz.prog.godebug = none := by kernel_rfl
theorem Tryz.gPow : Tryz.prog.globalNamed "internal/strconv.uint64pow10" = some 5 := by kernel_rfl
theorem Tryz.tPow : (Tryz.prog.globals[5]?).map (·.type) = some 368 := by kernel_rfl
theorem Tryz.cPow : Tryz.prog.cellsOf 368 = 20 := by kernel_rfl
theorem Tryz.cU64 : Tryz.prog.cellsOf 265 = 1 := by kernel_rfl
theorem Tryz.gSyn : Tryz.prog.globalNamed "strconv.ErrSyntax" = some 3 := by kernel_rfl
theorem Tryz.tSyn : (Tryz.prog.globals[3]?).map (·.type) = some 210 := by kernel_rfl
theorem Tryz.gRan : Tryz.prog.globalNamed "strconv.ErrRange" = some 4 := by kernel_rfl
theorem Tryz.tRan : (Tryz.prog.globals[4]?).map (·.type) = some 210 := by kernel_rfl
theorem Tryz.cErr : Tryz.prog.cellsOf 377 = 1 := by kernel_rfl
theorem Tryz.cStr : Tryz.prog.cellsOf 9 = 1 := by kernel_rfl
theorem Tryz.rowErr (u : TypeId) (hu : Tryz.prog.typeName? 3 u = some "*errors.errorString") : u = 375 :=
  typeName_ptr_named (nm := "errors.errorString") (by kernel_rfl) (by kernel_rfl) (by decide) u hu

/-- WHAT THE ROWS' LIST GIVES. -/
theorem laid_of {W : World} (h : laidMetH Tryz.prog Rows.polyRootsRow.laid W) : Laid W := by
  rw [MakeChecks.laidMetH_plain _ _ _ (by kernel_rfl)] at h
  have h : laidMet Tryz.prog [("math/bits.deBruijn32tab", Rows.laid_math_bits_deBruijn32tab), ("math/bits.deBruijn64tab", Rows.laid_math_bits_deBruijn64tab), ("internal/strconv.uint64pow10", Rows.laid_internal_strconv_uint64pow10), ("unicode/utf8.acceptRanges", Rows.laid_unicode_utf8_acceptRanges), ("strconv.ErrRange", Rows.laid_strconv_ErrRange), ("strconv.ErrSyntax", Rows.laid_strconv_ErrSyntax), ("unicode/utf8.first", Rows.laid_unicode_utf8_first)] W := h
  have h2 := h.tail.tail
  have h4 := h2.tail.tail
  have h5 := h4.tail
  have t : Lib.TabIs Tryz.prog W "internal/strconv.uint64pow10" .u64 Lib.pow10Tab := Lib.tabIs_of_head Tryz.gPow Tryz.tPow Tryz.underlying368 Tryz.underlying265 Tryz.cU64 Tryz.cPow h2
  obtain ⟨a1, s1, hv1, -⟩ := laid_sentinel h4 Tryz.gRan Tryz.tRan Tryz.underlying210 Tryz.rowErr Tryz.underlying375 Tryz.underlying377 rfl rfl Tryz.underlying9 Tryz.cErr Tryz.cStr
  obtain ⟨a2, s2, hv2, -⟩ := laid_sentinel h5 Tryz.gSyn Tryz.tSyn Tryz.underlying210 Tryz.rowErr Tryz.underlying375 Tryz.underlying377 rfl rfl Tryz.underlying9 Tryz.cErr Tryz.cStr
  exact ⟨t, _, _, _, _, hv2, hv1⟩

section
variable {H : Type} {enc : TypeId × Value → H} {P : Program}
/-- WHAT THE ROW ASKS BEHIND A CALL whose arguments are plain: new memory alone. -/
theorem post_below {f : Func} {s : ChangeSpec} {apart fresh handsOn again : Bool} {W W' : World} {args : Array Value} {v : Value} {ds gs : List (DataW H)}
    (hW : DataW.Whole enc P f.params.toList s.vars apart W args.toList ds gs [])
    (hres : ∀ (b : Nat) (sp : Nat → Bool) (hd : Bool), DataW.TrodAll enc P W' b sp hd f.resultTypes.toList (v.resultList f.resultTypes.size) (s.fn H (ds ++ gs)).results [])
    (hargs : ∀ sp : Nat → Bool, DataW.TrodAll enc P W' 0 sp true f.params.toList args.toList (s.fn H (ds ++ gs)).args [])
    (hvars : ∀ sp : Nat → Bool, DataW.TrodVars enc P W' sp s.vars (s.fn H (ds ++ gs)).vars [])
    (hk : Below W.heap.size W W')
    (hok : ∀ (j : Nat) (t : TypeId) (r : Value), f.resultTypes[j]? = some t → (v.resultList f.resultTypes.size)[j]? = some r → Value.okWide P W' .any 0 t r) :
    s.post enc P f apart fresh handsOn again W args v W' := by
  refine ⟨ds, gs, [], [], [], [], hW, hres _ _ _, hargs _, hvars _, hk.frame _, fun _ => ?_⟩
  refine ⟨hok, _, _, [], ⟨[], [], trodAll_append (hargs _) (hres _ _ _), hvars _, rfl, ?_, ?_⟩, ?_⟩
  · intro b off hp; cases hp
  · intro _; exact List.nodup_nil
  · intro p hp _; cases hp
end

end Go.Proofs.YtffndcjmabjhiaaGreatDoor

namespace Go.Proofs.YtffndcjmabjhiaaGreatDoor
open Go

theorem wf64 {n : Int} (h : (Lit.int .i64 n).wf = true) : -9223372036854775808 ≤ n ∧ n ≤ 9223372036854775807 := by
  simpa [Lit.wf, IntKind.min, IntKind.max, IntKind.signed, IntKind.bits] using h
theorem wf32 {n : Int} (h : (Lit.int .i32 n).wf = true) : -2147483648 ≤ n ∧ n ≤ 2147483647 := by
  simpa [Lit.wf, IntKind.min, IntKind.max, IntKind.signed, IntKind.bits] using h

end Go.Proofs.YtffndcjmabjhiaaGreatDoor

namespace Go.Proofs.YtffndcjmabjhiaaGreatDoor
open Go Go.ChangeShapes Go.WideShapes Go.ChangeAt Go.RowKit

section
variable {H : Type} {enc : TypeId × Value → H} {P : Program} {w : World} {base : Nat} {spare : Nat → Bool} {held : Bool}
theorem okWide_array {n : Nat} {e : TypeId} {r : Reach} {b0 : Nat} {t : TypeId} {v : Value} (ht : P.underlying t = some (.array n e)) (h : Value.okWide P w r b0 t v) : ∃ cs, v = .agg cs ∧ cs.size = P.cellsOf t := by
  simp only [Value.okWide, ht] at h
  obtain ⟨cs, h1, h2, _⟩ := h
  exact ⟨cs, h1, h2⟩
theorem size2 {cs : Array Value} (h : cs.size = 2) : ∃ a b, cs = #[a, b] := by
  match cs, h with
  | ⟨[a, b]⟩, _ => exact ⟨a, b, rfl⟩
theorem size4 {cs : Array Value} (h : cs.size = 4) : ∃ a b c d, cs = #[a, b, c, d] := by
  match cs, h with
  | ⟨[a, b, c, d]⟩, _ => exact ⟨a, b, c, d, rfl⟩
theorem trod_array2 {t e : TypeId} {fuel : Nat} {c0 c1 : Value} {x : DataW H × List MemPlace} (ht : P.underlying t = some (.array 2 e)) (hce : P.cellsOf e = 1)
    (h : DataW.trod enc P w base spare held fuel t [c0, c1] = some x) :
    ∃ y0 y1 n, x = (.agg [y0.1, y1.1], y0.2 ++ y1.2) ∧ DataW.trod enc P w base spare held n e [c0] = some y0 ∧ DataW.trod enc P w base spare held n e [c1] = some y1 := by
  cases fuel with
  | zero => simp [DataW.trod] at h
  | succ n =>
    unfold DataW.trod at h
    rw [ht] at h
    have r2 : List.range 2 = [0, 1] := rfl
    simp [r2, hce] at h
    obtain ⟨_, h⟩ := h
    cases h0 : DataW.trod enc P w base spare held n e [c0] with
    | none => simp [h0] at h
    | some y0 =>
      cases h1 : DataW.trod enc P w base spare held n e [c1] with
      | none => simp [h0, h1] at h
      | some y1 =>
        simp [h0, h1] at h
        exact ⟨y0, y1, n, h.symm, h0, h1⟩
theorem open_arr2 {r : Reach} {b0 : Nat} {t e : TypeId} {k : IntKind} {v : Value} {d : DataW H} {ps : List MemPlace} (ht : P.underlying t = some (.array 2 e)) (he : P.underlying e = some (.int k)) (hce : P.cellsOf e = 1) (hC : P.cellsOf t = 2)
    (hval : Value.okWide P w r b0 t v) (hd : DataW.Trod enc P w base spare held t v d ps) :
    ∃ x0 x1 : Int, v = .agg #[.int k x0, .int k x1] ∧ d = .agg [.lit (.int k x0), .lit (.int k x1)] ∧ ps = [] ∧ (Lit.int k x0).wf = true ∧ (Lit.int k x1).wf = true := by
  obtain ⟨cs, rfl, hsz⟩ := okWide_array ht hval
  obtain ⟨c0, c1, rfl⟩ := size2 (hsz.trans hC)
  obtain ⟨fuel, hf⟩ := hd
  obtain ⟨y0, y1, n, hx, h0, h1⟩ := trod_array2 ht hce hf
  obtain ⟨n0, e0, rfl, w0⟩ := DataW.trod_int he h0
  obtain ⟨n1, e1, rfl, w1⟩ := DataW.trod_int he h1
  simp only [List.cons.injEq, and_true] at e0 e1
  subst e0 e1
  simp only [Prod.mk.injEq] at hx
  exact ⟨n0, n1, rfl, hx.1, by simpa using hx.2, w0, w1⟩
theorem open_arr4 {r : Reach} {b0 : Nat} {t e : TypeId} {k : IntKind} {v : Value} {d : DataW H} {ps : List MemPlace} (ht : P.underlying t = some (.array 4 e)) (he : P.underlying e = some (.int k)) (hce : P.cellsOf e = 1) (hC : P.cellsOf t = 4)
    (hval : Value.okWide P w r b0 t v) (hd : DataW.Trod enc P w base spare held t v d ps) :
    ∃ x0 x1 x2 x3 : Int, v = .agg #[.int k x0, .int k x1, .int k x2, .int k x3] ∧ d = .agg [.lit (.int k x0), .lit (.int k x1), .lit (.int k x2), .lit (.int k x3)] ∧ ps = [] ∧ (Lit.int k x0).wf = true ∧ (Lit.int k x1).wf = true ∧ (Lit.int k x2).wf = true ∧ (Lit.int k x3).wf = true := by
  obtain ⟨cs, rfl, hsz⟩ := okWide_array ht hval
  obtain ⟨c0, c1, c2, c3, rfl⟩ := size4 (hsz.trans hC)
  obtain ⟨fuel, hf⟩ := hd
  obtain ⟨y0, y1, y2, y3, n, hx, h0, h1, h2, h3⟩ := trod_array4 ht hce hf
  obtain ⟨n0, e0, rfl, w0⟩ := DataW.trod_int he h0
  obtain ⟨n1, e1, rfl, w1⟩ := DataW.trod_int he h1
  obtain ⟨n2, e2, rfl, w2⟩ := DataW.trod_int he h2
  obtain ⟨n3, e3, rfl, w3⟩ := DataW.trod_int he h3
  simp only [List.cons.injEq, and_true] at e0 e1 e2 e3
  subst e0 e1 e2 e3
  simp only [Prod.mk.injEq] at hx
  exact ⟨n0, n1, n2, n3, rfl, hx.1, by simpa using hx.2, w0, w1, w2, w3⟩
theorem shut_arr2 {t e : TypeId} {k : IntKind} {x0 x1 : Int} (ht : P.underlying t = some (.array 2 e)) (he : P.underlying e = some (.int k)) (hce : P.cellsOf e = 1) (hC : P.cellsOf t = 2) (w0 : (Lit.int k x0).wf = true) (w1 : (Lit.int k x1).wf = true) :
    DataW.Trod enc P w base spare held t (.agg #[.int k x0, .int k x1]) (.agg [.lit (.int k x0), .lit (.int k x1)]) [] :=
  ⟨2, by simp [DataW.trod, Value.cells, ht, he, hce, hC, w0, w1, List.range, List.range.loop]⟩
theorem shut_arr4 {t e : TypeId} {k : IntKind} {x0 x1 x2 x3 : Int} (ht : P.underlying t = some (.array 4 e)) (he : P.underlying e = some (.int k)) (hce : P.cellsOf e = 1) (hC : P.cellsOf t = 4) (w0 : (Lit.int k x0).wf = true) (w1 : (Lit.int k x1).wf = true) (w2 : (Lit.int k x2).wf = true) (w3 : (Lit.int k x3).wf = true) :
    DataW.Trod enc P w base spare held t (.agg #[.int k x0, .int k x1, .int k x2, .int k x3]) (.agg [.lit (.int k x0), .lit (.int k x1), .lit (.int k x2), .lit (.int k x3)]) [] :=
  ⟨2, by simp [DataW.trod, Value.cells, ht, he, hce, hC, w0, w1, w2, w3, List.range, List.range.loop]⟩
end

end Go.Proofs.YtffndcjmabjhiaaGreatDoor

namespace Go.Proofs.YtffndcjmabjhiaaGreatDoor
open Go Go.ChangeShapes Go.WideShapes Go.ChangeAt Go.RowKit Go.Joins

theorem wf8 {n : Int} (h : (Lit.int .u8 n).wf = true) : 0 ≤ n ∧ n ≤ 255 := by
  simpa [Lit.wf, IntKind.min, IntKind.max, IntKind.signed, IntKind.bits] using h
theorem max64 {n : Nat} (h : n ≤ maxLen) : n ≤ 9223372036854775807 := by
  unfold maxLen at h; omega
section
variable {H : Type} {enc : TypeId × Value → H} {P : Program} {w : World} {base : Nat} {spare : Nat → Bool} {held : Bool}
theorem open_rat {r : Reach} {b0 : Nat} {t : TypeId} {f0 f1 : Field} {v : Value} {d : DataW H} {p : List MemPlace} (hs : P.underlying t = some (.struct #[f0, f1])) (hone : Go.Deep.oneCellFields P #[f0, f1] = true) (hC : P.cellsOf t = 2)
    (hs0 : P.underlying f0.type = some .string) (hs1 : P.underlying f1.type = some .string) (hv : Value.okWide P w r b0 t v) (h : DataW.Trod enc P w base spare held t v d p) :
    ∃ x y : ByteArray, v = .agg #[.string x, .string y] ∧ d = .agg [.lit (.string x.data.toList), .lit (.string y.data.toList)] ∧ p = [] ∧ x.size ≤ maxLen ∧ y.size ≤ maxLen := by
  obtain ⟨v0, v1, y0, y1, n, rfl, rfl, rfl, h0, h1⟩ := open_agg2 hs hone hC hv h
  obtain ⟨x, e0, rfl, m0⟩ := DataW.trod_string hs0 h0
  obtain ⟨y, e1, rfl, m1⟩ := DataW.trod_string hs1 h1
  simp only [List.cons.injEq, and_true] at e0 e1
  subst e0 e1
  exact ⟨x, y, rfl, rfl, rfl, m0, m1⟩
theorem shut_rat {t : TypeId} {f0 f1 : Field} {x y : ByteArray} (hs : P.underlying t = some (.struct #[f0, f1])) (hone : Go.Deep.oneCellFields P #[f0, f1] = true) (hC : P.cellsOf t = 2)
    (hs0 : P.underlying f0.type = some .string) (hs1 : P.underlying f1.type = some .string) (m0 : x.size ≤ maxLen) (m1 : y.size ≤ maxLen) :
    DataW.Trod enc P w base spare held t (.agg #[.string x, .string y]) (.agg [.lit (.string x.data.toList), .lit (.string y.data.toList)]) [] := by
  have t0 : ∃ n, DataW.trod enc P w base spare held n f0.type [.string x] = some (.lit (.string x.data.toList), []) := ⟨1, by simp [DataW.trod, hs0, m0]⟩
  have t1 : ∃ n, DataW.trod enc P w base spare held n f1.type [.string y] = some (.lit (.string y.data.toList), []) := ⟨1, by simp [DataW.trod, hs1, m1]⟩
  exact shut_agg2 hs hone hC t0 t1
end

end Go.Proofs.YtffndcjmabjhiaaGreatDoor
