/- The walk of the reference implementation's 'order'. Conditions: sizes. -/
import Derived.Test.YtcpkejpdpohfeaaGreatDoorV2
import Derived.Deep.RegionHeld3
namespace Go.Proofs.YtcpkejpdpohfeaaGreatDoor
open Go.RowKit Num
open Go.Shelf

theorem cmp10_len {a b : Nat} (h : (dg 10 a).length ≠ (dg 10 b).length) : Lib.compareInt a b = if (dg 10 a).length < (dg 10 b).length then -1 else 1 := by
  rcases Nat.lt_or_ge (dg 10 a).length (dg 10 b).length with h1 | h1
  · have := lt_of_len (by omega) h1
    unfold Lib.compareInt
    rw [if_pos h1, if_pos (by omega)]
  · have := lt_of_len (B := 10) (by omega) (show (dg 10 b).length < (dg 10 a).length by omega)
    unfold Lib.compareInt
    rw [if_neg (by omega), if_pos (by omega), if_neg (by omega)]
theorem cmp10_at {a b k : Nat} (hl : (dg 10 a).length = (dg 10 b).length) (hk : k < (dg 10 a).length)
    (hup : ∀ q, k < q → (dg 10 a)[q]?.getD 0 = (dg 10 b)[q]?.getD 0) (hne : (dg 10 a)[k]?.getD 0 ≠ (dg 10 b)[k]?.getD 0) :
    Lib.compareInt a b = if (dg 10 a)[k]?.getD 0 < (dg 10 b)[k]?.getD 0 then -1 else 1 := by
  have hd : (dg 10 a).drop (k + 1) = (dg 10 b).drop (k + 1) := by
    apply List.ext_getElem?
    intro i
    rw [List.getElem?_drop, List.getElem?_drop]
    have := hup (k + 1 + i) (by omega)
    rcases Nat.lt_or_ge (k + 1 + i) (dg 10 a).length with h1 | h1
    · rw [List.getElem?_eq_getElem h1, List.getElem?_eq_getElem (by omega)] at this ⊢
      simp only [Option.getD_some] at this
      rw [this]
    · rw [List.getElem?_eq_none h1, List.getElem?_eq_none (by omega)]
  have ea : (dg 10 a)[k]?.getD 0 = (dg 10 a)[k] := by rw [List.getElem?_eq_getElem hk]; rfl
  have eb : (dg 10 b)[k]?.getD 0 = (dg 10 b)[k] := by rw [List.getElem?_eq_getElem (by omega)]; rfl
  rw [ea, eb] at hne ⊢
  rcases Int.lt_or_le (dg 10 a)[k] (dg 10 b)[k] with h1 | h1
  · have := nv_lt_of (dig_dg (by omega) a) (dig_dg (by omega) b) k hk (by omega) hd h1
    rw [nv_dg (by omega), nv_dg (by omega)] at this
    unfold Lib.compareInt
    rw [if_pos h1, if_pos (by omega)]
  · have h2 : (dg 10 b)[k] < (dg 10 a)[k] := by omega
    have := nv_lt_of (dig_dg (by omega) b) (dig_dg (by omega) a) k (by omega) hk hd.symm h2
    rw [nv_dg (by omega), nv_dg (by omega)] at this
    unfold Lib.compareInt
    rw [if_neg (by omega), if_pos (by omega), if_neg (by omega)]
theorem cmp10_all {a b : Nat} (hl : (dg 10 a).length = (dg 10 b).length) (h : ∀ q : Nat, (dg 10 a)[q]?.getD 0 = (dg 10 b)[q]?.getD 0) : Lib.compareInt a b = 0 := by
  have e : dg 10 a = dg 10 b := by
    apply List.ext_getElem hl
    intro i h1 h2
    have := h i
    rwa [List.getElem?_eq_getElem h1, List.getElem?_eq_getElem h2] at this
  have := nv_inj (by omega) e
  subst this
  unfold Lib.compareInt
  rw [if_neg (by omega), if_neg (by omega)]

set_option maxHeartbeats 2000000 in
set_option maxRecDepth 100000 in
theorem rorder_any (a b : Nat) (v u : Value) (w : World) (hv : Rd w v (dg 10 a)) (hu : Rd w u (dg 10 b)) :
    Calls Tryz.prog 55 #[v, u] w (RetI w (Lib.compareInt a b)) := by
  obtain ⟨A, c, rfl, _, hma, hxa⟩ := hv
  obtain ⟨A', c', rfl, _, hmb, hxb⟩ := hu
  by_cases hl : (dg 10 a).length = (dg 10 b).length
  · have h1 : (((dg 10 a).length : Int) != ((dg 10 b).length : Int)) = false := by simp; omega
    have CA := Lib.hid (fun k => cmp10_at (k := k) hl)
    have CL := Lib.hid (cmp10_all hl)
    have HL := Lib.hid hl
    rcases Nat.eq_zero_or_pos (dg 10 a).length with h0 | h0
    · have hz := CL.out (fun q => by rw [List.getElem?_eq_none (by omega), List.getElem?_eq_none (by omega)])
      rw [hz, ← hl, h0]
      clear CA CL HL hl h1 hxa hxb hz hma hmb h0
      go_enter Tryz.func55, Tryz.ntmps55
      go_wp2
      go_loopg [5] 0 (fun kx s5 wr => s5 = .int .i64 (-1) ∧ wr = w)
      case atStart => exact ⟨rfl, rfl⟩
      case round =>
        obtain ⟨rfl, rfl⟩ := hrel
        go_wp2
        go_ret
        exact ⟨rfl, Below.refl _ _⟩
    · obtain ⟨b1, o1, rfl, hy1⟩ := hxa h0
      obtain ⟨b2, o2, rfl, hy2⟩ := hxb (by omega)
      have HY1 := Lib.hid hy1
      have HY2 := Lib.hid hy2
      clear hl hxa hxb hy1 hy2 hmb
      rw [← HL.out] at h1 ⊢
      generalize hla : (dg 10 a).length = la at *
      have HLA := Lib.hid hla
      clear hla
      go_enter Tryz.func55, Tryz.ntmps55
      go_wp2
      go_loopg [5] la (fun kx s5 wr => ∃ i : Int, s5 = .int .i64 i ∧ -1 ≤ i ∧ i < (la : Int) ∧ i + 1 ≤ kx ∧ Hid (∀ q : Nat, i < (q : Int) → (dg 10 a)[q]?.getD 0 = (dg 10 b)[q]?.getD 0) ∧ Below w.heap.size w wr)
      case atStart => exact ⟨_, rfl, by omega, by omega, by omega, Lib.hid (fun q hq => by have := HLA.out; have := HL.out; rw [List.getElem?_eq_none (by omega), List.getElem?_eq_none (by omega)]), Below.refl _ _⟩
      case round =>
        obtain ⟨i, rfl, hi0, hi1, hkx, hup, hnx⟩ := hrel
        by_cases hg : 0 ≤ i
        · obtain ⟨j, rfl⟩ : ∃ j : Nat, i = j := ⟨i.toNat, by omega⟩
          have hj : j < la := by omega
          have hc1 := (hnx.cell (cell_lt (HY1.out j hj))).trans (HY1.out j hj)
          have hc2 := (hnx.cell (cell_lt (HY2.out j (by have := HL.out; have := HLA.out; omega)))).trans (HY2.out j (by have := HL.out; have := HLA.out; omega))
          have CK := Lib.hid (CA.out j)
          have hnxt : Hid ((dg 10 a)[j]?.getD 0 = (dg 10 b)[j]?.getD 0 → ∀ q : Nat, (j : Int) - 1 < (q : Int) → (dg 10 a)[q]?.getD 0 = (dg 10 b)[q]?.getD 0) := Lib.hid (fun e q hq => by
            by_cases k : q = j
            · rw [k]; exact e
            · exact hup.out q (by omega))
          have hup' : Hid (∀ q : Nat, j < q → (dg 10 a)[q]?.getD 0 = (dg 10 b)[q]?.getD 0) := Lib.hid (fun q hq => hup.out q (by omega))
          clear hup
          generalize (dg 10 a)[j]?.getD 0 = x at *
          generalize (dg 10 b)[j]?.getD 0 = y at *
          have hw1 : IntKind.i64.wrap ((j : Int) - 1) = (j : Int) - 1 := IntWalk.i64_in _ (by omega)
          have hmixed : Tryz.prog.follows .mixedOrders = true := by kernel_rfl
          rcases Int.lt_trichotomy x y with hxy | hxy | hxy
          · have hb : (x != y) = true := by rw [bne_iff_ne]; omega
            have hr := Lib.hid (CK.out (by have := HLA.out; omega) hup'.out (by omega))
            rw [if_pos hxy] at hr
            clear hnxt
            go_wp2
            go_region
            all_goals go_wp2
            all_goals go_region
            all_goals go_wp2
            all_goals go_ret
            all_goals exact ⟨by rw [hr.out]; rfl, hnx.drew.drew⟩
          · subst hxy
            have hb : (x != x) = false := by simp
            have hn := Lib.hid (hnxt.out rfl)
            clear hnxt
            go_wp2
            go_region
            all_goals go_wp2
            go_roundg j
            case measure => omega
            case rel => exact ⟨_, by go_num, by omega, by omega, by omega, hn, hnx.drew⟩
          · have hb : (x != y) = true := by rw [bne_iff_ne]; omega
            have hxy' : ¬ x < y := by omega
            have hr := Lib.hid (CK.out (by have := HLA.out; omega) hup'.out (by omega))
            rw [if_neg hxy'] at hr
            clear hnxt
            go_wp2
            go_region
            all_goals go_wp2
            all_goals go_region
            all_goals go_wp2
            all_goals go_ret
            all_goals exact ⟨by rw [hr.out]; rfl, hnx.drew.drew⟩
        · obtain rfl : i = -1 := by omega
          have hz := Lib.hid (CL.out (fun q => hup.out q (by omega)))
          go_wp2
          go_ret
          exact ⟨by rw [hz.out]; rfl, hnx⟩
  · have h1 : (((dg 10 a).length : Int) != ((dg 10 b).length : Int)) = true := by simp; omega
    have hr := Lib.hid (cmp10_len hl)
    clear hxa hxb hl
    by_cases hlt : (dg 10 a).length < (dg 10 b).length
    · rw [if_pos hlt] at hr
      have hlt' : ((dg 10 a).length : Int) < ((dg 10 b).length : Int) := by omega
      generalize (dg 10 a).length = la at *
      generalize (dg 10 b).length = lb at *
      go_enter Tryz.func55, Tryz.ntmps55
      go_wp2
      go_ret
      exact ⟨by rw [hr.out]; rfl, Below.refl _ _⟩
    · rw [if_neg hlt] at hr
      have hlt' : ¬ ((dg 10 a).length : Int) < ((dg 10 b).length : Int) := by omega
      generalize (dg 10 a).length = la at *
      generalize (dg 10 b).length = lb at *
      go_enter Tryz.func55, Tryz.ntmps55
      go_wp2
      go_ret
      exact ⟨by rw [hr.out]; rfl, Below.refl _ _⟩

end Go.Proofs.YtcpkejpdpohfeaaGreatDoor
