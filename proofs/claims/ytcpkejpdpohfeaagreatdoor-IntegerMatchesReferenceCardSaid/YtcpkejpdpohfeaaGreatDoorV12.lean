/- The walk of the reference implementation's 'FromInt'. Conditions: an int. -/
import Derived.Test.YtcpkejpdpohfeaaGreatDoorV11
namespace Go.Proofs.YtcpkejpdpohfeaaGreatDoor
open Go.RowKit Num
open Go.Shelf

/-- What is written, and what remains. -/
def FN (N : Nat) (m : Int) (ys : List Int) : Prop := ys ++ dg 10 m.natAbs = dg 10 N
theorem FN.step {N : Nat} {m m2 d : Int} {ys : List Int} (h : FN N m ys) (h0 : m ≠ 0) (hm : m2.natAbs = m.natAbs / 10) (hd : d = (m.natAbs % 10 : Nat)) : FN N m2 (ys ++ [d]) := by
  unfold FN at h ⊢
  rw [hm, List.append_assoc, ← h, dg_pos (B := 10) (n := m.natAbs) (by omega) (by omega), hd]
  rfl
theorem FN.done {N : Nat} {ys : List Int} (h : FN N 0 ys) : ys = dg 10 N := by
  unfold FN at h
  rw [show (0 : Int).natAbs = 0 from rfl, dg_zero, List.append_nil] at h
  exact h
theorem FN.len {N : Nat} {m : Int} {ys : List Int} (h : FN N m ys) : ys.length ≤ (dg 10 N).length := by
  unfold FN at h
  rw [← h, List.length_append]; omega

set_option maxHeartbeats 4000000 in
set_option maxRecDepth 100000 in
theorem rfrom_any (n : Int) (h0 : -9223372036854775808 ≤ n) (h1 : n ≤ 9223372036854775807) (w : World) : Calls Tryz.prog 24 #[.int .i64 n] w (RetZ w (tx n)) := by
  have hlN : Hid ((dg 10 n.natAbs).length ≤ 19) := Lib.hid (dg_len (by omega) 19 _ (by omega))
  have hsg := Lib.hid (sgn_self n)
  have TX := Lib.hid (fun v w hv => rtext_any (decide (n < 0)) n.natAbs v w hv)
  by_cases hn : n < 0
  · rw [decide_eq_true hn] at hsg TX
    go_enter Tryz.func24, Tryz.ntmps24
    go_wp2
    go_loopg [3, 4, 5] n.natAbs (fun kx s3 s4 s5 wr => ∃ (m : Int) (ys : List Int), s4 = .int .i64 m ∧ m ≤ 0 ∧ -9223372036854775808 ≤ m ∧ m.natAbs ≤ kx ∧ Hid (FN n.natAbs m ys) ∧ wr.ownsRow w.heap.size 3 1 s3 ys.length (ys.map (Value.int .i64)) ∧ Below w.heap.size w wr)
    case atStart => exact ⟨n, [], rfl, by omega, by omega, Nat.le_refl _, Lib.hid rfl, World.ownsRow_nil _ _ _ _, Below.refl _ _⟩
    case round =>
      obtain ⟨m, ys, rfl, hm0, hm1, hkx, hF, hown, hnx⟩ := hrel
      have hyl : ys.length ≤ 1000000 := by have := hF.out.len; have := hlN.out; omega
      by_cases hz : m = 0
      · subst hz
        have HR := Lib.hid (Rd.own hown hyl)
        have HE := Lib.hid hF.out.done
        clear hown
        go_wp2_with (go_at_call 36; (with_reducible refine (TX.out _ _ (HE.out ▸ HR.out)).mono ?_); rintro e w2 ⟨rfl, hb2⟩)
        go_ret
        exact ⟨by rw [hsg.out]; rfl, below_up hnx hb2⟩
      · have hb0 : (m == 0) = false := by rw [beq_eq_false_iff_ne]; exact hz
        have hb1 : (m != 0) = true := by rw [bne_iff_ne]; exact hz
        obtain ⟨k, rfl⟩ : ∃ k : Nat, m = -(k : Int) := ⟨m.natAbs, by omega⟩
        have et : (-(k : Int)).tmod 10 = -((k : Int) % 10) := by rw [Int.neg_tmod, Int.tmod_eq_emod_of_nonneg (by omega)]
        have ed : (-(k : Int)).tdiv 10 = -((k : Int) / 10) := by rw [Int.neg_tdiv, Int.tdiv_eq_ediv_of_nonneg (by omega)]
        have hst := Lib.hid (fun d hd => hF.out.step (m2 := -((k : Int) / 10)) (d := d) hz (by omega) hd)
        have HOWN := Lib.hid hown
        clear hown
        rcases Nat.eq_zero_or_pos (k % 10) with hd | hd
        · have hd1 : (k : Int) % 10 = 0 := by omega
          have hnew := Lib.hid (hst.out 0 (by omega))
          clear hd
          go_wp2_with (at_builtin; refine app_int rfl (.tmp 19) (.tmp 21) rfl w.heap.size _ ys 0 rfl HOWN.out rfl hyl hnx.size ?_; intro v' w3 hown3 hb3)
          go_roundg (k / 10)
          case measure => omega
          case rel => exact ⟨-((k : Int) / 10), ys ++ [0], by go_num, by omega, by omega, by omega, hnew, hown3, hb3 _ _ hnx (Nat.le_refl _)⟩
        · have hd1 : -((k : Int) % 10) < 0 := by omega
          have hnew := Lib.hid (hst.out ((k : Int) % 10) (by omega))
          have hw1 : IntKind.i64.wrap ((k : Int) % 10) = (k : Int) % 10 := IntWalk.i64_in _ (by omega)
          clear hd
          go_wp2_with (at_builtin; refine app_int rfl (.tmp 19) (.tmp 21) rfl w.heap.size _ ys ((k : Int) % 10) rfl HOWN.out rfl hyl hnx.size ?_; intro v' w3 hown3 hb3)
          go_roundg (k / 10)
          case measure => omega
          case rel => exact ⟨-((k : Int) / 10), ys ++ [(k : Int) % 10], by go_num, by omega, by omega, by omega, hnew, hown3, hb3 _ _ hnx (Nat.le_refl _)⟩
  · rw [decide_eq_false hn] at hsg TX
    have hn' : 0 ≤ n := by omega
    have hnf : ¬ n < 0 := hn
    go_enter Tryz.func24, Tryz.ntmps24
    go_wp2
    go_loopg [3, 4, 5] n.natAbs (fun kx s3 s4 s5 wr => ∃ (m : Int) (ys : List Int), s4 = .int .i64 m ∧ 0 ≤ m ∧ m ≤ 9223372036854775807 ∧ m.natAbs ≤ kx ∧ Hid (FN n.natAbs m ys) ∧ wr.ownsRow w.heap.size 3 1 s3 ys.length (ys.map (Value.int .i64)) ∧ Below w.heap.size w wr)
    case atStart => exact ⟨n, [], rfl, by omega, by omega, Nat.le_refl _, Lib.hid rfl, World.ownsRow_nil _ _ _ _, Below.refl _ _⟩
    case round =>
      obtain ⟨m, ys, rfl, hm0, hm1, hkx, hF, hown, hnx⟩ := hrel
      have hyl : ys.length ≤ 1000000 := by have := hF.out.len; have := hlN.out; omega
      by_cases hz : m = 0
      · subst hz
        have HR := Lib.hid (Rd.own hown hyl)
        have HE := Lib.hid hF.out.done
        clear hown
        have hnf2 : decide (n < 0) = false := decide_eq_false (by omega)
        go_wp2_with (go_at_call 36; (with_reducible refine (TX.out _ _ (HE.out ▸ HR.out)).mono ?_); rintro e w2 ⟨rfl, hb2⟩)
        go_ret
        exact ⟨by rw [hsg.out]; rfl, below_up hnx hb2⟩
      · have hb0 : (m == 0) = false := by rw [beq_eq_false_iff_ne]; exact hz
        have hb1 : (m != 0) = true := by rw [bne_iff_ne]; exact hz
        have hst := Lib.hid (hF.out.step (m2 := m / 10) (d := m % 10) hz (by omega) (by omega))
        have hd1 : ¬ m % 10 < 0 := by omega
        have HOWN := Lib.hid hown
        clear hown
        go_wp2_with (at_builtin; refine app_int rfl (.tmp 19) (.tmp 21) rfl w.heap.size _ ys (m % 10) rfl HOWN.out rfl hyl hnx.size ?_; intro v' w3 hown3 hb3)
        go_roundg (m / 10).natAbs
        case measure => omega
        case rel => exact ⟨m / 10, ys ++ [m % 10], by go_num, by omega, by omega, by omega, hst, hown3, hb3 _ _ hnx (Nat.le_refl _)⟩

end Go.Proofs.YtcpkejpdpohfeaaGreatDoor
