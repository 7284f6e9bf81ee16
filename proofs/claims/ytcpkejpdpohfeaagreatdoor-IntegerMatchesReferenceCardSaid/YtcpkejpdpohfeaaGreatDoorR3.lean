/- The walk of the reference implementation's 'Made'. Conditions: sizes. -/
import Derived.Test.YtcpkejpdpohfeaaGreatDoorR2
namespace Go.Proofs.YtcpkejpdpohfeaaGreatDoor
open Go.RowKit Num
open Go.Shelf

/-- 'append(l, r)' of a []int. -/
theorem app_int {w : World} {ops : Array Oper} {rest : List Oper} {o : Oper} {a : Act} {Q : Exit → Act → World → Prop} (hgd : o.guard = none) (s x : Operand)
    (ho : o.op = .call { callee := .builtin .append, args := #[s, x], argTypes := #[44, 44] }) (B : Nat) (v : Value) (ys : List Int) (r : Int) (hs : a.eval s = v)
    (hown : w.ownsRow B 3 1 v ys.length (ys.map (Value.int .i64))) (hx : a.eval x = .slice (some ⟨w.heap.size, 0, none⟩) 1 1) (hl : ys.length ≤ 1000000) (hB : B ≤ w.heap.size)
    (h : ∀ v' w', w'.ownsRow B 3 1 v' (ys ++ [r]).length ((ys ++ [r]).map (Value.int .i64)) → (∀ b W, Below b W w → b ≤ B → Below b W w') → wpList Tryz.prog ops Q rest (a.put o.dst v') w') :
    wpList Tryz.prog ops Q (o :: rest) a (w.alloc (.cells #[.int .i64 r] 3)) := by
  obtain ⟨i0, hi, hz0, hz1, hz2⟩ := info_parts Tryz.info3
  refine wpList_append_own _ hgd s x 44 ho B 3 i0 (.int .i64 0) 1 8 Tryz.underlying44 hi hz0 hz1 hz2 rfl (by decide) v ys.length _ hs (hown.alloc _) ⟨w.heap.size, 0, none⟩ 1 1 [.int .i64 r] hx rfl (cell_one_new _ _ _) ?_ ?_ ?_ ?_ ?_
  · intro u hu; simp at hu; subst hu; rfl
  · unfold maxLen; omega
  · omega
  · simp; omega
  · intro v' w' hown' hg _
    refine h v' w' (by simpa using hown') (fun b W hb hbB => ?_)
    exact (hb.alloc (by omega) _).grown hg (by simp; omega) (fun k hk => by have := (hown.lt k hk).1; omega)

set_option maxHeartbeats 2000000 in
theorem made_nil (most : Nat) (w : World) : Calls Tryz.prog 13 #[.string ⟨#[]⟩, .int .i64 most] w fun e w' => ∃ z : Int, z.natAbs < 10 ^ most ∧ e = .returned (.string (tx z)) ∧ Below w.heap.size w w' := by
  go_enter Tryz.func13, Tryz.ntmps13
  go_wp2
  go_loopg [5, 6] 0 (fun kx s5 s6 wr => s6 = .int .i64 0 ∧ s5 = .slice none 0 0 ∧ wr = w)
  case atStart => exact ⟨rfl, rfl, rfl⟩
  case round =>
    obtain ⟨rfl, rfl, rfl⟩ := hrel
    have hmixed : Tryz.prog.follows .mixedOrders = true := by kernel_rfl
    have TR := Lib.hid (trim_own _ [] wr.drew (Rd.nil _) (Dig.nil _))
    go_wp2
    first
    | (go_region_with (first
        | (go_at_call 37; (with_reducible refine TR.out.mono ?_); rintro e w1 ⟨v1, rfl, hr1, rfl, -⟩)
        | (go_at_call 36; (with_reducible refine (rtext_any _ _ v1 _ hr1).mono ?_); rintro e w2 ⟨rfl, hb2⟩)))
    | fail "no way"
    all_goals go_wp2
    all_goals go_ret
    all_goals exact ⟨_, by rw [sgn_abs]; exact Nat.pow_pos (by omega), rfl, below_up (Below.refl _ _).drew hb2⟩

end Go.Proofs.YtcpkejpdpohfeaaGreatDoor
