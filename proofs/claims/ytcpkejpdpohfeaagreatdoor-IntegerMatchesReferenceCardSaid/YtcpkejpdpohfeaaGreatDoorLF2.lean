/- Bounds of integers that a row's arguments keep. -/
import Derived.Test.YtcpkejpdpohfeaaGreatDoorLF
namespace Go.Proofs.YtcpkejpdpohfeaaGreatDoor
open Go

theorem wf64 {n : Int} (h : (Lit.int .i64 n).wf = true) : -9223372036854775808 ≤ n ∧ n ≤ 9223372036854775807 := by
  simpa [Lit.wf, IntKind.min, IntKind.max, IntKind.signed, IntKind.bits] using h
theorem wf32 {n : Int} (h : (Lit.int .i32 n).wf = true) : -2147483648 ≤ n ∧ n ≤ 2147483647 := by
  simpa [Lit.wf, IntKind.min, IntKind.max, IntKind.signed, IntKind.bits] using h

end Go.Proofs.YtcpkejpdpohfeaaGreatDoor
