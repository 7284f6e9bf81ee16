/- The walk of sort.Search at a closure that makes memory, and of the closure of package integer's 'over'. Conditions: sizes. -/
import Derived.Test.YtcpkejpdpohfeaaGreatDoorI6
import Derived.Deep.RegionWith
namespace Go.Proofs.YtcpkejpdpohfeaaGreatDoor
open Go.RowKit Num
open Go.Shelf

theorem countP_edge (p : Nat → Bool) (n k : Nat) (hk : k ≤ n) (h1 : ∀ t, t < k → p t = false) (h2 : ∀ t, k ≤ t → t < n → p t = true) : (List.range n).countP (fun i => !p i) = k := by
  induction n with
  | zero => simp; omega
  | succ n ih =>
    rw [List.range_succ, List.countP_append]
    rcases Nat.lt_or_ge n k with h | h
    · obtain rfl : k = n + 1 := by omega
      have e : (List.range n).countP (fun i => !p i) = n := by
        have : (List.range n).countP (fun i => !p i) = (List.range n).length := List.countP_eq_length.2 (fun t ht => by rw [h1 t (by have := List.mem_range.1 ht; omega)]; rfl)
        simpa using this
      rw [e]
      simp [h1 n (by omega)]
    · rw [ih h (fun t a b => h2 t a (by omega))]
      simp [h2 n h (by omega)]

set_option maxHeartbeats 1000000 in
set_option maxRecDepth 100000 in
theorem search_any (g : Nat) (cb : Array Value) (n k : Nat) (p : Nat → Bool) (w : World) (eg : ∀ args w, (callFunc g args).run Tryz.prog w = .ok (.enter g args) w) (hsz : n < 4611686018427387904) (hk : k ≤ n)
    (h1 : ∀ t, t < k → p t = false) (h2 : ∀ t, k ≤ t → t < n → p t = true)
    (hf : ∀ (i : Nat) (W : World), i < n → Below w.heap.size w W → Calls Tryz.prog g (#[.int .i64 i] ++ cb) W fun e w' => e = .returned (.bool (p i)) ∧ Below W.heap.size W w') :
    Calls Tryz.prog 67 #[.int .i64 n, .func (.func g) #[] cb] w fun e w' => e = .returned (.int .i64 k) ∧ Below w.heap.size w w' := by
  have HF := Lib.hid hf
  have H1 := Lib.hid h1
  have H2 := Lib.hid h2
  clear hf h1 h2
  go_enter Tryz.func67, Tryz.ntmps67
  go_wp2
  go_loopg [5, 6] n (fun kx s5 s6 wr => ∃ (lo hi : Nat), s5 = .int .i64 lo ∧ s6 = .int .i64 hi ∧ lo ≤ hi ∧ hi ≤ n ∧ hi - lo ≤ kx ∧ lo ≤ k ∧ k ≤ hi ∧ Below w.heap.size w wr)
  case atStart => exact ⟨0, n, rfl, rfl, Nat.zero_le _, Nat.le_refl _, by omega, Nat.zero_le _, hk, Below.refl _ _⟩
  case round =>
    obtain ⟨lo, hi, rfl, rfl, hlh, hin, hg, hlk, hkh, hnx⟩ := hrel
    by_cases hlt : lo < hi
    · have hc := HF.out ((lo + hi) / 2) wr (by omega) hnx
      rw [show (((lo + hi) / 2 : Nat) : Int) = ((lo : Int) + (hi : Int)) / 2 by omega] at hc
      rcases Nat.lt_or_ge ((lo + hi) / 2) k with h | h
      · rw [H1.out _ h] at hc
        have HC := Lib.hid hc
        clear hc
        go_wp2_with (go_at_fn g; refine HC.out.mono ?_; rintro e w' ⟨rfl, hb⟩)
        go_roundg (hi - ((lo + hi) / 2 + 1))
        case measure => omega
        case rel => exact ⟨(lo + hi) / 2 + 1, hi, by rw [show ((lo : Int) + (hi : Int)) / 2 + 1 = (((lo + hi) / 2 + 1 : Nat) : Int) by omega], rfl, by omega, hin, Nat.le_refl _, by omega, hkh, below_up hnx hb⟩
      · rw [H2.out _ h (by omega)] at hc
        have HC := Lib.hid hc
        clear hc
        go_wp2_with (go_at_fn g; refine HC.out.mono ?_; rintro e w' ⟨rfl, hb⟩)
        go_roundg ((lo + hi) / 2 - lo)
        case measure => omega
        case rel => exact ⟨lo, (lo + hi) / 2, rfl, by rw [show ((lo : Int) + (hi : Int)) / 2 = (((lo + hi) / 2 : Nat) : Int) by omega], by omega, by omega, Nat.le_refl _, hlk, h, below_up hnx hb⟩
    · obtain rfl : hi = lo := by omega
      obtain rfl : k = hi := by omega
      go_wp2
      go_ret
      exact ⟨rfl, hnx⟩

theorem cmp_pos (x y : Nat) : decide (0 < Lib.compareInt x y) = decide (y < x) := by
  unfold Lib.compareInt
  rcases Nat.lt_or_ge x y with h | h
  · rw [if_pos (by omega)]; simp; omega
  · rw [if_neg (by omega)]
    rcases Nat.lt_or_ge y x with h1 | h1
    · rw [if_pos (by omega)]; simp [h1]
    · rw [if_neg (by omega)]; simp; omega

set_option maxHeartbeats 1000000 in
theorem over1_any (d b r B8 B5 : Nat) (u v : Value) (w : World) (h8 : w.cell? ⟨B8, 0, none⟩ = some (.func (.func 64) #[u] #[])) (h5 : w.cell? ⟨B5, 0, none⟩ = some v)
    (hu : Rd w u (dg 10000 b)) (hv : Rd w v (dg 10000 r)) (hb : b < big) (hd : d ≤ 9998) :
    Calls Tryz.prog 66 #[.int .i64 d, .pointer (some ⟨B8, 0, none⟩), .pointer (some ⟨B5, 0, none⟩)] w fun e w' => e = .returned (.bool (decide (r < b * (d + 1)))) ∧ Below w.heap.size w w' := by
  rw [← cmp_pos]
  have hmixed : Tryz.prog.follows .mixedOrders = true := by kernel_rfl
  have HU := Lib.hid hu
  have HV := Lib.hid hv
  have ec : ((d : Int) + 1) = ((d + 1 : Nat) : Int) := by omega
  have C1 := Lib.hid (by_any b (d + 1) u w.drew (hu.below (Below.refl _ _).drew) hb (by omega))
  rw [← ec] at C1
  generalize b * (d + 1) = m at C1 ⊢
  have hw : IntKind.i64.wrap ((d : Int) + 1) = (d : Int) + 1 := IntWalk.i64_in _ (by omega)
  clear hu hv ec
  go_enter Tryz.func66, Tryz.ntmps66
  go_wp2
  go_region_with (first
    | (go_at_call 64; (with_reducible refine C1.out.mono ?_); rintro e w1 ⟨v1, rfl, hr1, hb1⟩; have hbl1 := below_drewL hb1; have h51 := (hbl1.cell (cell_lt h5)).trans h5)
    | (go_at_call 46; (with_reducible refine (compare_any m r _ _ w1 hr1 (HV.out.below hbl1)).mono ?_); rintro e w2 ⟨rfl, hb2⟩; have hbl2 := below_up hbl1 hb2))
  all_goals go_wp2
  all_goals go_ret
  all_goals exact ⟨rfl, hbl2⟩

end Go.Proofs.YtcpkejpdpohfeaaGreatDoor
