/- Equality of arrays of fractions, and of errors. -/
import Derived.Test.YtnioinccflmdjaaGreatDoorT6
import Derived.Laws.StructEq
namespace Go.Proofs.YtnioinccflmdjaaGreatDoor
open Go.RowKit Num
open Go.Shelf

set_option maxHeartbeats 2000000 in
theorem eq_errs (a b c d : Int) (w : World) : (Op.equalIn 10000 50 (.agg #[.int .i64 a, .int .i64 b, .int .i64 c, .int .i64 d]) (.agg #[.int .i64 a, .int .i64 b, .int .i64 c, .int .i64 d])).run Tryz.prog w = .ok true w := by
  have hs : Tryz.prog.cellsOf 30 = 1 := by kernel_rfl
  have he : ∀ (d : Nat) (x y : Int) (w : World), (Op.equalIn (d + 1) 30 (.int .i64 x) (.int .i64 y)).run Tryz.prog w = .ok (x == y) w := fun d x y w => run_equalIn_int w d 30 .i64 .i64 x y Tryz.underlying30
  have hia : ∀ w, (isAgg 30).run Tryz.prog w = .ok false w := fun _ => by kernel_rfl
  show (Op.equalIn (9998 + 1 + 1) _ _ _).run _ _ = _
  unfold Op.equalIn
  simp [run_underlying Tryz.underlying50, go_sem, he, hia, List.range', List.forIn_cons, Result.andThen, Sem.run_pure, Sem.run_bind]

set_option maxHeartbeats 2000000 in
theorem eq_ratio1 (d : Nat) (x y : ByteArray) (w : World) : (Op.equalIn (d + 1 + 1) 23 (.agg #[.string x, .string y]) (.agg #[.string x, .string y])).run Tryz.prog w = .ok true w := by
  have hs : ∀ (d : Nat) (x y : ByteArray) (w : World), (Op.equalIn (d + 1) 9 (.string x) (.string y)).run Tryz.prog w = .ok (x.toList == y.toList) w := fun d x y w => run_equalIn_string w d 9 x y Tryz.underlying9
  have hia : ∀ w, (isAgg 9).run Tryz.prog w = .ok false w := fun _ => by kernel_rfl
  have hst : Tryz.prog.stoodInHeld 23 = false := by kernel_rfl
  unfold Op.equalIn
  simp [run_underlying Tryz.underlying23, go_sem, hs, hia, hst, List.forIn_cons, Result.andThen, Sem.run_pure, Sem.run_bind]
set_option maxHeartbeats 2000000 in
theorem eq_ratios (a b c d e f g h : ByteArray) (w : World) : (Op.equalIn 10000 49 (.agg #[.string a, .string b, .string c, .string d, .string e, .string f, .string g, .string h]) (.agg #[.string a, .string b, .string c, .string d, .string e, .string f, .string g, .string h])).run Tryz.prog w = .ok true w := by
  have he := eq_ratio1
  have hia : ∀ w, (isAgg 23).run Tryz.prog w = .ok true w := fun _ => by kernel_rfl
  have hsz : ∀ w, (sizeOf 23).run Tryz.prog w = .ok 2 w := fun _ => by kernel_rfl
  show (Op.equalIn (9997 + 1 + 1 + 1) _ _ _).run _ _ = _
  unfold Op.equalIn
  simp [run_underlying Tryz.underlying49, go_sem, he, hia, hsz, List.range', List.forIn_cons, Result.andThen, Sem.run_pure, Sem.run_bind]

end Go.Proofs.YtnioinccflmdjaaGreatDoor
