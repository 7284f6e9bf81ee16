/- The walks of package integer's functions 'at' and 'trimmed' over groups of digits. Conditions: none. -/
import Derived.Test.YtcpkejpdpohfeaaGreatDoorMem
namespace Go.Proofs.YtcpkejpdpohfeaaGreatDoor
open Go.RowKit Num

set_option maxHeartbeats 400000 in
theorem at_any (v : Value) (xs : List Int) (i : Nat) (w : World) (hR : Rd w v xs) (hi : i ≤ 100000000) :
    Calls Tryz.prog 70 #[v, .int .i64 i] w fun e w' => e = .returned (.int .i64 (xs[i]?.getD 0)) ∧ w' = w := by
  obtain ⟨A, c, rfl, hc, hm, hx⟩ := hR
  by_cases hlt : i < xs.length
  · obtain ⟨b, o, rfl, hy⟩ := hx (by omega)
    have hcell := hy i hlt
    have h1 : (i : Int) < (xs.length : Int) := by omega
    have h0 : (0 : Int) ≤ (i : Int) := by omega
    generalize xs[i]?.getD 0 = x at hcell ⊢
    clear hx hy hlt
    go_enter Tryz.func70, Tryz.ntmps70
    go_wp2
    go_ret
    exact ⟨rfl, rfl⟩
  · have h1 : ¬ (i : Int) < (xs.length : Int) := by omega
    have e : xs[i]?.getD 0 = 0 := by rw [List.getElem?_eq_none (by omega)]; rfl
    rw [e]
    clear e hx hlt
    go_enter Tryz.func70, Tryz.ntmps70
    go_wp2
    go_ret
    exact ⟨rfl, rfl⟩


theorem nv_drop0 {xs : List Int} {m : Nat} (hm : m < xs.length) (h : xs[m]?.getD 0 = 0) : nv 10000 (xs.take (m + 1)) = nv 10000 (xs.take m) := by
  rw [List.take_succ_eq_append_getElem hm, nv_snoc]
  rw [List.getElem?_eq_getElem hm] at h
  simp only [Option.getD_some] at h
  rw [h]; simp
theorem take_canon {xs : List Int} {m : Nat} (hD : Dig 10000 xs) (hm : m < xs.length) (h : xs[m]?.getD 0 ≠ 0) : xs.take (m + 1) = dg 10000 (nv 10000 (xs.take (m + 1))).toNat := by
  refine canon (by omega) _ (hD.take _) ?_
  rw [List.take_succ_eq_append_getElem hm, List.getLast?_append]
  rw [List.getElem?_eq_getElem hm] at h
  simpa using h

theorem Rd.take {w : World} {A : Option Addr} {c : Nat} {xs : List Int} {k : Nat} (hc : xs.length ≤ c ∧ (A = none → c = 0)) (hm : xs.length ≤ 1000000)
    (hx : 0 < xs.length → ∃ b o, A = some ⟨b, o, none⟩ ∧ ∀ j, j < xs.length → w.cell? ⟨b, o + j, none⟩ = some (.int .i64 (xs[j]?.getD 0))) (hk : k ≤ xs.length) : Rd w (.slice A k c) (xs.take k) := by
  have hl : (xs.take k).length = k := by rw [List.length_take]; omega
  refine ⟨A, c, by rw [hl], ⟨by omega, hc.2⟩, by omega, fun h0 => ?_⟩
  obtain ⟨b, o, hA, hy⟩ := hx (by omega)
  refine ⟨b, o, hA, fun j hj => ?_⟩
  rw [hy j (by omega), List.getElem?_take_of_lt (by omega)]

set_option maxHeartbeats 400000 in
theorem trimmed_own (v : Value) (xs : List Int) (w : World) (hR : Rd w v xs) (hD : Dig 10000 xs) :
    Calls Tryz.prog 65 #[v] w fun e w' => ∃ v', e = .returned v' ∧ Rd w' v' (dg 10000 (nv 10000 xs).toNat) ∧ w' = w ∧ v'.ownBlock = v.ownBlock := by
  obtain ⟨A, c, rfl, hc, hm, hx⟩ := hR
  have HC := Lib.hid hc
  replace hc := hc.1
  go_enter Tryz.func65, Tryz.ntmps65
  go_wp2
  go_loop [0] (fun s => ∃ k : Nat, k ≤ xs.length ∧ s = .slice A k c ∧ Hid (nv 10000 (xs.take k) = nv 10000 xs)) (fun s => match s with | .slice _ n _ => n | _ => 0)
  case atStart => exact ⟨xs.length, Nat.le_refl _, rfl, by rw [List.take_length]; exact rfl⟩
  case round =>
    obtain ⟨k, hk, rfl, hI⟩ := hrel
    rcases Nat.eq_zero_or_pos k with rfl | h0
    · go_wp2
      go_ret
      have e : dg 10000 (nv 10000 xs).toNat = xs.take 0 := by
        rw [← hI.out]; simp [nv, dg_zero]
      exact ⟨_, rfl, by rw [e]; exact Rd.take HC.out hm hx hk, rfl, by cases A <;> rfl⟩
    · obtain ⟨m, rfl⟩ : ∃ m, k = m + 1 := ⟨k - 1, by omega⟩
      clear h0
      obtain ⟨b, o, rfl, hy⟩ := hx (by omega)
      have hcell := hy m (by omega)
      have HX := Lib.hid hx
      have HY := Lib.hid hy
      clear hx hy
      by_cases hz : xs[m]?.getD 0 = 0
      · have HZ := Lib.hid hz
        rw [hz] at hcell
        clear hz
        go_wp2
        go_round
        case rel => exact ⟨m, by omega, rfl, (nv_drop0 (by omega) HZ.out).symm.trans hI.out⟩
        case measure => simp
      · have HZ := Lib.hid hz
        have hb : (xs[m]?.getD 0 == 0) = false := by simpa using hz
        clear hz
        have e : Hid (dg 10000 (nv 10000 xs).toNat = xs.take (m + 1)) := by
          rw [← hI.out]; exact (take_canon hD (by omega) HZ.out).symm
        go_wp2
        go_ret
        exact ⟨_, rfl, by rw [e.out]; exact Rd.take HC.out hm HX.out hk, rfl, rfl⟩
theorem trimmed_any (v : Value) (xs : List Int) (w : World) (hR : Rd w v xs) (hD : Dig 10000 xs) :
    Calls Tryz.prog 65 #[v] w fun e w' => ∃ v', e = .returned v' ∧ Rd w' v' (dg 10000 (nv 10000 xs).toNat) ∧ w' = w :=
  (trimmed_own v xs w hR hD).mono fun _ _ ⟨v', h1, h2, h3, _⟩ => ⟨v', h1, h2, h3⟩

end Go.Proofs.YtcpkejpdpohfeaaGreatDoor
