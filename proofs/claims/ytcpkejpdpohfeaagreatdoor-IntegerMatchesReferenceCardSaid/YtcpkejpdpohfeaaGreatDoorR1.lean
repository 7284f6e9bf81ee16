/- The walks of the reference implementation's functions on lists of decimal digits: trim. Conditions: none. -/
import Derived.Test.YtcpkejpdpohfeaaGreatDoorI2
namespace Go.Proofs.YtcpkejpdpohfeaaGreatDoor
open Go.RowKit Num

theorem nv10_drop0 {xs : List Int} {m : Nat} (hm : m < xs.length) (h : xs[m]?.getD 0 = 0) : nv 10 (xs.take (m + 1)) = nv 10 (xs.take m) := by
  rw [List.take_succ_eq_append_getElem hm, nv_snoc]
  rw [List.getElem?_eq_getElem hm] at h
  simp only [Option.getD_some] at h
  rw [h]; simp
theorem take10_canon {xs : List Int} {m : Nat} (hD : Dig 10 xs) (hm : m < xs.length) (h : xs[m]?.getD 0 ≠ 0) : xs.take (m + 1) = dg 10 (nv 10 (xs.take (m + 1))).toNat := by
  refine canon (by omega) _ (hD.take _) ?_
  rw [List.take_succ_eq_append_getElem hm, List.getLast?_append]
  rw [List.getElem?_eq_getElem hm] at h
  simpa using h

set_option maxHeartbeats 400000 in
theorem trim_own (v : Value) (xs : List Int) (w : World) (hR : Rd w v xs) (hD : Dig 10 xs) :
    Calls Tryz.prog 37 #[v] w fun e w' => ∃ v', e = .returned v' ∧ Rd w' v' (dg 10 (nv 10 xs).toNat) ∧ w' = w ∧ v'.ownBlock = v.ownBlock := by
  obtain ⟨A, c, rfl, hc, hm, hx⟩ := hR
  have HC := Lib.hid hc
  replace hc := hc.1
  go_enter Tryz.func37, Tryz.ntmps37
  go_wp2
  go_loop [0] (fun s => ∃ k : Nat, k ≤ xs.length ∧ s = .slice A k c ∧ Hid (nv 10 (xs.take k) = nv 10 xs)) (fun s => match s with | .slice _ n _ => n | _ => 0)
  case atStart => exact ⟨xs.length, Nat.le_refl _, rfl, by rw [List.take_length]; exact rfl⟩
  case round =>
    obtain ⟨k, hk, rfl, hI⟩ := hrel
    rcases Nat.eq_zero_or_pos k with rfl | h0
    · go_wp2
      go_ret
      have e : dg 10 (nv 10 xs).toNat = xs.take 0 := by
        rw [← hI.out]; simp [nv, dg_zero]
      exact ⟨_, rfl, by rw [e]; exact Rd.take HC.out hm hx hk, rfl, by cases A <;> rfl⟩
    · obtain ⟨m, rfl⟩ : ∃ m, k = m + 1 := ⟨k - 1, by omega⟩
      clear h0
      obtain ⟨b, o, rfl, hy⟩ := hx (by omega)
      have hcell := hy m (by omega)
      have HX := Lib.hid hx
      have HY := Lib.hid hy
      clear hx hy
      by_cases hz : xs[m]?.getD 0 = 0
      · have HZ := Lib.hid hz
        rw [hz] at hcell
        clear hz
        go_wp2
        go_round
        case rel => exact ⟨m, by omega, rfl, (nv10_drop0 (by omega) HZ.out).symm.trans hI.out⟩
        case measure => simp
      · have HZ := Lib.hid hz
        have hb : (xs[m]?.getD 0 == 0) = false := by simpa using hz
        clear hz
        have e : Hid (dg 10 (nv 10 xs).toNat = xs.take (m + 1)) := by
          rw [← hI.out]; exact (take10_canon hD (by omega) HZ.out).symm
        go_wp2
        go_ret
        exact ⟨_, rfl, by rw [e.out]; exact Rd.take HC.out hm HX.out hk, rfl, rfl⟩

end Go.Proofs.YtcpkejpdpohfeaaGreatDoor
