/- The walk of the reference implementation's 'Made', at a string that is not empty. Conditions: sizes. -/
import Derived.Test.YtcpkejpdpohfeaaGreatDoorR3
namespace Go.Proofs.YtcpkejpdpohfeaaGreatDoor
open Go.RowKit Num
open Go.Shelf

set_option maxHeartbeats 2000000 in
set_option maxRecDepth 100000 in
theorem made_pos (s : ByteArray) (h0 : 0 < s.size) (most : Nat) (hm : most ≤ 1000) (w : World) : Calls Tryz.prog 13 #[.string s, .int .i64 most] w fun e w' => ∃ z : Int, z.natAbs < 10 ^ most ∧ e = .returned (.string (tx z)) ∧ Below w.heap.size w w' := by
  go_enter Tryz.func13, Tryz.ntmps13
  go_wp2
  go_loopg [5, 6] most (fun kx s5 s6 wr => ∃ (k : Nat) (ys : List Int), s6 = .int .i64 k ∧ k ≤ s.size ∧ k ≤ most ∧ most ≤ kx + k ∧ Hid (ys.length = k) ∧ Hid (Dig 10 ys) ∧ wr.ownsRow w.heap.size 3 1 s5 ys.length (ys.map (Value.int .i64)) ∧ Below w.heap.size w wr)
  case atStart => exact ⟨0, [], rfl, Nat.zero_le _, Nat.zero_le _, by omega, rfl, Dig.nil _, World.ownsRow_nil _ _ _ _, Below.refl _ _⟩
  case round =>
    obtain ⟨k, ys, rfl, hks, hkm, hkx, hl, hd, hown, hnx⟩ := hrel
    by_cases hgo : k < s.size ∧ k < most
    · obtain ⟨h1, h2⟩ := hgo
      have h1' : (k : Int) < (s.size : Int) := by omega
      have h2' : (k : Int) < (most : Int) := by omega
      have hw1 : IntKind.i64.wrap ((k : Int) + 1) = (k : Int) + 1 := IntWalk.i64_in _ (by omega)
      have hb : (s[k]'h1).toNat < 256 := UInt8.toNat_lt _
      have HOWN := Lib.hid hown
      clear hown
      have hyl : ys.length ≤ 1000000 := by rw [hl.out]; omega
      go_wp2_with (at_builtin; refine app_int rfl (.tmp 20) (.tmp 26) rfl w.heap.size _ ys (((s[k]'h1).toNat : Int) % 10) rfl HOWN.out rfl hyl hnx.size ?_; intro v' w3 hown3 hb3)
      go_roundg (most - (k + 1))
      case measure => omega
      case rel => exact ⟨k + 1, _, by go_num, by omega, by omega, by omega, Lib.hid (by rw [List.length_append, hl.out]; rfl), Lib.hid (hd.out.append (Dig.one (by omega) (by omega))), hown3, hb3 _ _ hnx (Nat.le_refl _)⟩
    · have hmixed : Tryz.prog.follows .mixedOrders = true := by kernel_rfl
      have hyl : ys.length ≤ 1000000 := by rw [hl.out]; omega
      have HR := Lib.hid (Rd.own hown hyl)
      obtain ⟨A, c, rfl, -, -, -⟩ := HR.out
      clear hown hyl
      have hcs : ¬ (k : Int) < (s.size : Int) ∨ ((k : Int) < (s.size : Int) ∧ ¬ (k : Int) < (most : Int)) := by omega
      clear hgo
      have TR := Lib.hid (trim_own _ ys wr.drew (HR.out.below (Below.refl _ _).drew) hd.out)
      have hzs : Hid ((nv 10 ys).toNat < 10 ^ most) := Lib.hid (by
        have h1 := nv_lt hd.out
        have h2 := nv_nonneg hd.out
        have h3 : 10 ^ ys.length ≤ 10 ^ most := Nat.pow_le_pow_right (by omega) (by rw [hl.out]; exact hkm)
        have h4 : ((10 : Nat) : Int) ^ ys.length = ((10 ^ ys.length : Nat) : Int) := by rw [Int.natCast_pow]
        omega)
      generalize (nv 10 ys).toNat = N at *
      have h9 : decide (0 < s.size) = true := by simp [h0]
      have hz1 : (0 : Int) < (s.size : Int) := by omega
      rcases hcs with h1 | ⟨h1, h2⟩
      all_goals
        go_wp2
        go_region_held3 (fun _ => True) (go_keep) (first
            | (go_at_call 37; (with_reducible refine TR.out.mono ?_); rintro e w1 ⟨v1, rfl, hr1, rfl, -⟩)
            | (go_at_call 36; (with_reducible refine (rtext_any _ N v1 _ hr1).mono ?_); rintro e w2 ⟨rfl, hb2⟩))
        all_goals go_wp2
        all_goals go_ret
        all_goals exact ⟨_, by rw [sgn_abs]; exact hzs.out, rfl, below_up hnx.drew hb2⟩

theorem made_any (s : ByteArray) (most : Nat) (hm : most ≤ 1000) (w : World) : Calls Tryz.prog 13 #[.string s, .int .i64 most] w fun e w' => ∃ z : Int, z.natAbs < 10 ^ most ∧ e = .returned (.string (tx z)) ∧ Below w.heap.size w w' := by
  rcases Nat.eq_zero_or_pos s.size with h | h
  · obtain rfl : s = ⟨#[]⟩ := ByteArray.size_eq_zero_iff.1 h
    exact made_nil most w
  · exact made_pos s h most hm w

end Go.Proofs.YtcpkejpdpohfeaaGreatDoor
