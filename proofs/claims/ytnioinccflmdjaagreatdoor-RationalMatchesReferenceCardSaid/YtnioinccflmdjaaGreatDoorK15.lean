/- The frame of the laws' proofs: what the rows' list of variables gives a walk, and what a walk over plain arguments owes the row. Bounds of integers that a row's arguments keep. -/
import Derived.Test.YtnioinccflmdjaaGreatDoorK4
import Derived.Test.YtnioinccflmdjaaGreatDoorCards
import Derived.Test.YtnioinccflmdjaaGreatDoorTie
import Derived.ProofKit
import Derived.OpenShut
import Derived.LaidMore
import Derived.Lay
import Derived.SevenTiedAt
import Derived.Stop.Joined
import Derived.Lib.LaidTab
import Derived.Stop.LaidErr
namespace Go.Proofs.YtnioinccflmdjaaGreatDoor
open Go Go.ChangeShapes Go.WideShapes Go.ChangeAt Go.RowKit

theorem Tryz.own : ownKnob Tryz.prog.godebug = none := by kernel_rfl
theorem Tryz.gPow : Tryz.prog.globalNamed "internal/strconv.uint64pow10" = some 1 := by kernel_rfl
theorem Tryz.tPow : (Tryz.prog.globals[1]?).map (·.type) = some 169 := by kernel_rfl
theorem Tryz.cPow : Tryz.prog.cellsOf 169 = 20 := by kernel_rfl
theorem Tryz.cU64 : Tryz.prog.cellsOf 146 = 1 := by kernel_rfl
theorem Tryz.gSyn : Tryz.prog.globalNamed "strconv.ErrSyntax" = some 4 := by kernel_rfl
theorem Tryz.tSyn : (Tryz.prog.globals[4]?).map (·.type) = some 94 := by kernel_rfl
theorem Tryz.gRan : Tryz.prog.globalNamed "strconv.ErrRange" = some 5 := by kernel_rfl
theorem Tryz.tRan : (Tryz.prog.globals[5]?).map (·.type) = some 94 := by kernel_rfl
theorem Tryz.cErr : Tryz.prog.cellsOf 186 = 1 := by kernel_rfl
theorem Tryz.cStr : Tryz.prog.cellsOf 9 = 1 := by kernel_rfl
theorem Tryz.rowErr (u : TypeId) (hu : Tryz.prog.typeName? 3 u = some "*errors.errorString") : u = 184 :=
  typeName_ptr_named (nm := "errors.errorString") (by kernel_rfl) (by kernel_rfl) (by decide) u hu

/-- WHAT THE ROWS' LIST GIVES. -/
theorem laid_of {W : World} (h : laidMetH Tryz.prog Rows.rationalLimitsRow.laid W) : Laid W := by
  rw [MakeChecks.laidMetH_plain _ _ _ (by kernel_rfl)] at h
  have h : laidMet Tryz.prog [("math/bits.deBruijn32tab", Rows.laid_math_bits_deBruijn32tab), ("math/bits.deBruijn64tab", Rows.laid_math_bits_deBruijn64tab), ("internal/strconv.uint64pow10", Rows.laid_internal_strconv_uint64pow10), ("unicode/utf8.acceptRanges", Rows.laid_unicode_utf8_acceptRanges), ("strconv.ErrRange", Rows.laid_strconv_ErrRange), ("strconv.ErrSyntax", Rows.laid_strconv_ErrSyntax), ("unicode/utf8.first", Rows.laid_unicode_utf8_first)] W := h
  have h2 := h.tail.tail
  have h4 := h2.tail.tail
  have h5 := h4.tail
  have t : Lib.TabIs Tryz.prog W "internal/strconv.uint64pow10" .u64 Lib.pow10Tab := Lib.tabIs_of_head Tryz.gPow Tryz.tPow Tryz.underlying169 Tryz.underlying146 Tryz.cU64 Tryz.cPow h2
  obtain ⟨a1, s1, hv1, -⟩ := laid_sentinel h4 Tryz.gRan Tryz.tRan Tryz.underlying94 Tryz.rowErr Tryz.underlying184 Tryz.underlying186 rfl rfl Tryz.underlying9 Tryz.cErr Tryz.cStr
  obtain ⟨a2, s2, hv2, -⟩ := laid_sentinel h5 Tryz.gSyn Tryz.tSyn Tryz.underlying94 Tryz.rowErr Tryz.underlying184 Tryz.underlying186 rfl rfl Tryz.underlying9 Tryz.cErr Tryz.cStr
  exact ⟨t, _, _, _, _, hv2, hv1⟩

section
variable {H : Type} {enc : TypeId × Value → H} {P : Program}
/-- WHAT THE ROW ASKS BEHIND A CALL whose arguments are plain: new memory alone. -/
theorem post_below {f : Func} {s : ChangeSpec} {apart fresh handsOn again : Bool} {W W' : World} {args : Array Value} {v : Value} {ds gs : List (DataW H)}
    (hW : DataW.Whole enc P f.params.toList s.vars apart W args.toList ds gs [])
    (hres : ∀ (b : Nat) (sp : Nat → Bool) (hd : Bool), DataW.TrodAll enc P W' b sp hd f.resultTypes.toList (v.resultList f.resultTypes.size) (s.fn H (ds ++ gs)).results [])
    (hargs : ∀ sp : Nat → Bool, DataW.TrodAll enc P W' 0 sp true f.params.toList args.toList (s.fn H (ds ++ gs)).args [])
    (hvars : ∀ sp : Nat → Bool, DataW.TrodVars enc P W' sp s.vars (s.fn H (ds ++ gs)).vars [])
    (hk : Below W.heap.size W W')
    (hok : ∀ (j : Nat) (t : TypeId) (r : Value), f.resultTypes[j]? = some t → (v.resultList f.resultTypes.size)[j]? = some r → Value.okWide P W' .any 0 t r) :
    s.post enc P f apart fresh handsOn again W args v W' := by
  refine ⟨ds, gs, [], [], [], [], hW, hres _ _ _, hargs _, hvars _, hk.frame _, fun _ => ?_⟩
  refine ⟨hok, _, _, [], ⟨[], [], trodAll_append (hargs _) (hres _ _ _), hvars _, rfl, ?_, ?_⟩, ?_⟩
  · intro b off hp; cases hp
  · intro _; exact List.nodup_nil
  · intro p hp _; cases hp
end

end Go.Proofs.YtnioinccflmdjaaGreatDoor

namespace Go.Proofs.YtnioinccflmdjaaGreatDoor
open Go

theorem wf64 {n : Int} (h : (Lit.int .i64 n).wf = true) : -9223372036854775808 ≤ n ∧ n ≤ 9223372036854775807 := by
  simpa [Lit.wf, IntKind.min, IntKind.max, IntKind.signed, IntKind.bits] using h
theorem wf32 {n : Int} (h : (Lit.int .i32 n).wf = true) : -2147483648 ≤ n ∧ n ≤ 2147483647 := by
  simpa [Lit.wf, IntKind.min, IntKind.max, IntKind.signed, IntKind.bits] using h

end Go.Proofs.YtnioinccflmdjaaGreatDoor
