/- cut of package workpiecelaw04. Conditions: sizes. -/
import Derived.Test.YtnioinccflmdjaaGreatDoorW15
namespace Go.Proofs.YtnioinccflmdjaaGreatDoor
open Go.RowKit Num
open Go.Shelf

/-- At most 210 bytes of a string. -/
def cutB (x : ByteArray) : ByteArray := x.extract 0 (min (x.size : Int) 210).toNat
theorem cutB_size (x : ByteArray) : (cutB x).size ≤ 210 := by
  unfold cutB
  rw [ByteArray.size_extract]
  omega
set_option maxHeartbeats 2000000 in
set_option maxRecDepth 100000 in
theorem cut_any (x y : ByteArray) (hx : x.size ≤ 9223372036854775807) (hy : y.size ≤ 9223372036854775807) (w : World) : Calls Tryz.prog 13 #[.agg #[.string x, .string y]] w (RetA w (cutB x) (cutB y)) := by
  have X := (Blk.new w 23 [.string x, .string y]).alloc (.cells #[.string ⟨#[]⟩, .string ⟨#[]⟩] 23)
  have Z := Blk.new2 w (.cells #[.string x, .string y] 23) 23 [.string ⟨#[]⟩, .string ⟨#[]⟩]
  have hB := below_up (below1 w (.cells #[.string x, .string y] 23)) (below1 _ (.cells #[.string ⟨#[]⟩, .string ⟨#[]⟩] 23))
  have x0 := X.cell 0 (v := .string x) rfl
  have x1 := X.cell 1 (v := .string y) rfl
  have z0 := Z.cell 0 (v := .string ⟨#[]⟩) rfl
  have z1 := Z.cell 1 (v := .string ⟨#[]⟩) rfl
  have f0 := Z.frozen 0
  have f1 := Z.frozen 1
  have h1 : min (x.size : Int) 210 ≤ x.size := by omega
  have h2 : min (y.size : Int) 210 ≤ y.size := by omega
  have h3 : 0 ≤ min (x.size : Int) 210 := by omega
  have h4 : 0 ≤ min (y.size : Int) 210 := by omega
  go_enter Tryz.func13, Tryz.ntmps13
  go_wp2
  go_region
  go_wp2
  have hd := below_up (below_up (below1 w (.cells #[.string x, .string y] 23)) (below1 _ (.cells #[.string (cutB x), .string (cutB y)] 23))) ((Below.refl _ _).drew)
  refine bodyPost_ret (v := .agg #[.string (cutB x), .string (cutB y)]) (by simp [results, Tryz.results13, go_sem, cutB]) rfl ⟨rfl, hd⟩

end Go.Proofs.YtnioinccflmdjaaGreatDoor
