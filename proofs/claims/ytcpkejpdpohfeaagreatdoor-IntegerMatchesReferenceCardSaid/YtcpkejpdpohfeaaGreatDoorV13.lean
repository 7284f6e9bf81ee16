/- The walk of the reference implementation's 'ToInt'. Conditions: sizes. -/
import Derived.Test.YtcpkejpdpohfeaaGreatDoorV12
namespace Go.Proofs.YtcpkejpdpohfeaaGreatDoor
open Go.RowKit Num
open Go.Shelf

theorem dval_take_succ {l : List UInt8} {i : Nat} (h : i < l.length) : dval (l.take (i + 1)) = 10 * dval (l.take i) + (l[i].toNat - 48) := by
  rw [List.take_succ_eq_append_getElem h, dval_snoc]
theorem dval_take_le (l : List UInt8) (i : Nat) : dval (l.take i) ≤ dval l := by
  have h := dval_append (l.take i) (l.drop i)
  rw [List.take_append_drop] at h
  rw [h]
  have : 1 ≤ 10 ^ (l.drop i).length := Nat.pow_pos (by omega)
  have := Nat.mul_le_mul_left (dval (l.take i)) this
  omega
theorem dec_get {k : Nat} {i : Nat} (h : i < (Lib.decDigits k).length) : 48 ≤ (Lib.decDigits k)[i].toNat ∧ (Lib.decDigits k)[i].toNat ≤ 57 := by
  have h1 := List.all_eq_true.1 (dec_isD k) _ (List.getElem_mem h)
  simpa [isD] using h1
theorem lit_min : Is ⟨#[45, 57, 50, 50, 51, 51, 55, 50, 48, 51, 54, 56, 53, 52, 55, 55, 53, 56, 48, 56]⟩ (-9223372036854775808) := by unfold Is; kernel_rfl
theorem lit_max : Is ⟨#[57, 50, 50, 51, 51, 55, 50, 48, 51, 54, 56, 53, 52, 55, 55, 53, 56, 48, 55]⟩ 9223372036854775807 := by unfold Is; kernel_rfl
theorem rcmp_is {s t : ByteArray} {a b c : Int} (hs : Is s a) (ht : Is t b) (h : Lib.compareInt a b = c) (w : World) :
    Calls Tryz.prog 34 #[.string s, .string t] w (RetI w c) := by
  refine (rcompare_any s t (by have := hs.size; omega) (by have := ht.size; omega) w).mono fun e w' k => ?_
  unfold cmpI at k
  rw [show rdI s = some a from hs, show rdI t = some b from ht] at k
  simp only [h] at k
  exact k

set_option maxHeartbeats 4000000 in
set_option maxRecDepth 100000 in
theorem rtoInt_any (s : ByteArray) (hs : s.size ≤ 9223372036854775807) (w : World) : Calls Tryz.prog 32 #[.string s] w (RetN2 w (toI s).1 (toI s).2) := by
  cases h : rdI s with
  | none =>
    rw [show toI s = (0, 30) by unfold toI; rw [h]]
    have V1 := Lib.hid (fun w => rvalid_none hs h w)
    clear h hs
    go_enter Tryz.func32, Tryz.ntmps32
    go_wp2_with (go_at_call 33; (with_reducible refine (V1.out _).mono ?_); rintro e w1 ⟨rfl, hb1⟩)
    go_ret2
    exact ⟨rfl, hb1⟩
  | some z =>
    have hz : Is s z := h
    have V1 := Lib.hid (fun w => rvalid_some h w)
    by_cases hlo : z < -9223372036854775808
    · rw [show toI s = (0, 30) by unfold toI; rw [h]; simp only; rw [if_neg (by omega)]]
      have C1 := Lib.hid (fun w => rcmp_is hz lit_min (cmp_lt hlo) w)
      clear h hs hz hlo
      go_enter Tryz.func32, Tryz.ntmps32
      go_wp2_with (first
        | (go_at_call 33; (with_reducible refine (V1.out _).mono ?_); rintro e w1 ⟨rfl, hb1⟩)
        | (go_at_call 34; (with_reducible refine (C1.out _).mono ?_); rintro e w2 ⟨rfl, hb2⟩))
      go_ret2
      exact ⟨rfl, below_up hb1 hb2⟩
    · have hc1 : ∃ c, ¬ c < 0 ∧ Hid (Lib.compareInt z (-9223372036854775808) = c) := ⟨_, by unfold Lib.compareInt; rw [if_neg hlo]; split <;> omega, Lib.hid rfl⟩
      obtain ⟨c1, hc1, hce1⟩ := hc1
      have C1 := Lib.hid (fun w => rcmp_is hz lit_min hce1.out w)
      by_cases hhi : 9223372036854775807 < z
      · rw [show toI s = (0, 30) by unfold toI; rw [h]; simp only; rw [if_neg (by omega)]]
        have C2 := Lib.hid (fun w => rcmp_is hz lit_max (cmp_gt hhi) w)
        clear h hs hz hlo hhi hce1
        go_enter Tryz.func32, Tryz.ntmps32
        go_wp2_with (first
          | (go_at_call 33; (with_reducible refine (V1.out _).mono ?_); rintro e w1 ⟨rfl, hb1⟩)
          | (go_at_call 34; (with_reducible refine (C1.out _).mono ?_); rintro e w2 ⟨rfl, hb2⟩)
          | (go_at_call 34; (with_reducible refine (C2.out _).mono ?_); rintro e w3 ⟨rfl, hb3⟩))
        go_ret2
        exact ⟨rfl, below_up hb1 (below_up hb2 hb3)⟩
      · rw [show toI s = (z, 0) by unfold toI; rw [h]; simp only; rw [if_pos (by omega)]]
        have hc2 : ∃ c, ¬ 0 < c ∧ Hid (Lib.compareInt z 9223372036854775807 = c) := ⟨_, by unfold Lib.compareInt; rw [if_neg hhi]; split <;> omega, Lib.hid rfl⟩
        obtain ⟨c2, hc2, hce2⟩ := hc2
        have C2 := Lib.hid (fun w => rcmp_is hz lit_max hce2.out w)
        have hsz := hz.size
        have hl : s.data.toList = Lib.itoa z := by rw [hz.eq]; rfl
        have hdv := dval_dec z.natAbs
        clear h hs hz hce1 hce2
        by_cases hn : z < 0
        · have hl2 : s.data.toList = 45 :: Lib.decDigits z.natAbs := by rw [hl, itoa_neg hn]
          have hss : s.size = (Lib.decDigits z.natAbs).length + 1 := by rw [ByteArray.size, ← Array.length_toList, hl2]; rfl
          have hs0 : 0 < s.size := by omega
          have h45 : s[0]'hs0 = 45 := by rw [← get_list]; simp [hl2]
          have h45' : (((s[0]'hs0).toNat : Int) == 45) = true := by rw [h45]; rfl
          have hget : Hid (∀ j (h : j < s.size), 0 < j → ∃ h2 : j - 1 < (Lib.decDigits z.natAbs).length, s[j]'h = (Lib.decDigits z.natAbs)[j - 1]) := Lib.hid (fun j h hj => by
            obtain ⟨q, rfl⟩ : ∃ q, j = q + 1 := ⟨j - 1, by omega⟩
            exact ⟨by omega, by rw [← get_list]; simp [hl2]⟩)
          have hfin : Hid (-((dval ((Lib.decDigits z.natAbs).take (s.size - 1)) : Nat) : Int) = z) := Lib.hid (by
            rw [hss, Nat.add_sub_cancel, List.take_length, hdv]; omega)
          have HDV := Lib.hid hdv
          have hkb : z.natAbs ≤ 9223372036854775808 := by omega
          clear hl hl2 hss h45 hdv hlo hhi hn
          generalize z.natAbs = k at *
          go_enter Tryz.func32, Tryz.ntmps32
          go_wp2_with (first
            | (go_at_call 33; (with_reducible refine (V1.out _).mono ?_); rintro e w1 ⟨rfl, hb1⟩)
            | (go_at_call 34; (with_reducible refine (C1.out _).mono ?_); rintro e w2 ⟨rfl, hb2⟩)
            | (go_at_call 34; (with_reducible refine (C2.out _).mono ?_); rintro e w3 ⟨rfl, hb3⟩))
          go_loopg [4, 5, 6] s.size (fun kx s4 s5 s6 wr => ∃ (i : Nat) (v : Int), s5 = .int .i64 i ∧ s4 = .int .i64 v ∧ Hid (v = -((dval ((Lib.decDigits k).take (i - 1)) : Nat) : Int)) ∧ i ≤ s.size ∧ s.size ≤ kx + i ∧ wr = w3)
          case atStart => exact ⟨0, 0, rfl, rfl, Lib.hid rfl, by omega, by omega, rfl⟩
          case round =>
            obtain ⟨i, v, rfl, rfl, hv, hi, hkx, rfl⟩ := hrel
            have hw1 : IntKind.i64.wrap ((i : Int) + 1) = (i : Int) + 1 := IntWalk.i64_in _ (by omega)
            by_cases hg : i < s.size
            · have hg' : (i : Int) < (s.size : Int) := by omega
              by_cases hi0 : i = 0
              · subst hi0
                go_wp2
                go_roundg (s.size - 1)
                case measure => omega
                case rel => exact ⟨1, v, by go_num, rfl, hv, by omega, by omega, rfl⟩
              · obtain ⟨h2, hgi⟩ := hget.out i hg (by omega)
                have hd := dec_get h2
                have hstep := dval_take_succ h2
                have hle := dval_take_le (Lib.decDigits k) (i - 1 + 1)
                rw [← hgi] at hd hstep
                rw [HDV.out] at hle
                obtain ⟨e, he⟩ : ∃ e : Int, ((s[i]'hg).toNat : Int) = 48 + e := ⟨((s[i]'hg).toNat : Int) - 48, by omega⟩
                have he0 : 0 ≤ e := by omega
                have he9 : e ≤ 9 := by omega
                have hvo := hv.out
                have hnew : Hid (10 * v + -e = -((dval ((Lib.decDigits k).take (i + 1 - 1)) : Nat) : Int)) := Lib.hid (by
                  rw [show i + 1 - 1 = i - 1 + 1 by omega]; omega)
                have hb1 : -9223372036854775808 ≤ 10 * v + -e := by omega
                have hb2 : -9223372036854775808 ≤ 10 * v := by omega
                have hb3 : v ≤ 0 := by omega
                have hn45 : ((48 + e : Int) == 45) = false := by rw [beq_eq_false_iff_ne]; omega
                have hu8 : IntKind.u8.wrap (48 + e - 48) = e := by rw [show 48 + e - 48 = e by omega]; exact IntWalk.u8_in _ (by omega)
                clear hd hstep hle hvo hgi h2
                go_wp2
                go_roundg (s.size - (i + 1))
                case measure => omega
                case rel => exact ⟨i + 1, 10 * v + -e, by go_num, by go_num, hnew, by omega, by omega, rfl⟩
            · obtain rfl : i = s.size := by omega
              have hv2 : Hid (v = z) := Lib.hid (by rw [hv.out, hfin.out])
              clear hg
              go_wp2
              go_ret2
              exact ⟨by rw [← hv2.out]; rfl, below_up hb1 (below_up hb2 hb3)⟩
        · have hl2 : s.data.toList = Lib.decDigits z.natAbs := by rw [hl, itoa_nonneg (by omega)]
          have hss : s.size = (Lib.decDigits z.natAbs).length := by rw [ByteArray.size, ← Array.length_toList, hl2]
          have hs0 : 0 < s.size := by have := List.length_pos_iff.2 (dec_ne z.natAbs); omega
          have hget : Hid (∀ j (h : j < s.size), ∃ h2 : j < (Lib.decDigits z.natAbs).length, s[j]'h = (Lib.decDigits z.natAbs)[j]) := Lib.hid (fun j h => ⟨by omega, by rw [← get_list]; simp [hl2]⟩)
          have hfin : Hid (((dval ((Lib.decDigits z.natAbs).take s.size) : Nat) : Int) = z) := Lib.hid (by
            rw [hss, List.take_length, hdv]; omega)
          have HDV := Lib.hid hdv
          have hkb : z.natAbs ≤ 9223372036854775807 := by omega
          clear hl hl2 hss hdv hlo hhi hn
          generalize z.natAbs = k at *
          have h45' : (((s[0]'hs0).toNat : Int) == 45) = false := by
            obtain ⟨h2, hgi⟩ := hget.out 0 hs0
            have hd := dec_get h2
            rw [← hgi] at hd
            rw [beq_eq_false_iff_ne]; omega
          go_enter Tryz.func32, Tryz.ntmps32
          go_wp2_with (first
            | (go_at_call 33; (with_reducible refine (V1.out _).mono ?_); rintro e w1 ⟨rfl, hb1⟩)
            | (go_at_call 34; (with_reducible refine (C1.out _).mono ?_); rintro e w2 ⟨rfl, hb2⟩)
            | (go_at_call 34; (with_reducible refine (C2.out _).mono ?_); rintro e w3 ⟨rfl, hb3⟩))
          go_loopg [4, 5, 6] s.size (fun kx s4 s5 s6 wr => ∃ (i : Nat) (v : Int), s5 = .int .i64 i ∧ s4 = .int .i64 v ∧ Hid (v = ((dval ((Lib.decDigits k).take i) : Nat) : Int)) ∧ i ≤ s.size ∧ s.size ≤ kx + i ∧ wr = w3)
          case atStart => exact ⟨0, 0, rfl, rfl, Lib.hid rfl, by omega, by omega, rfl⟩
          case round =>
            obtain ⟨i, v, rfl, rfl, hv, hi, hkx, rfl⟩ := hrel
            have hw1 : IntKind.i64.wrap ((i : Int) + 1) = (i : Int) + 1 := IntWalk.i64_in _ (by omega)
            by_cases hg : i < s.size
            · have hg' : (i : Int) < (s.size : Int) := by omega
              obtain ⟨h2, hgi⟩ := hget.out i hg
              have hd := dec_get h2
              have hstep := dval_take_succ h2
              have hle := dval_take_le (Lib.decDigits k) (i + 1)
              rw [← hgi] at hd hstep
              rw [HDV.out] at hle
              obtain ⟨e, he⟩ : ∃ e : Int, ((s[i]'hg).toNat : Int) = 48 + e := ⟨((s[i]'hg).toNat : Int) - 48, by omega⟩
              have he0 : 0 ≤ e := by omega
              have he9 : e ≤ 9 := by omega
              have hvo := hv.out
              have hnew : Hid (10 * v + e = ((dval ((Lib.decDigits k).take (i + 1)) : Nat) : Int)) := Lib.hid (by omega)
              have hb1 : 10 * v + e ≤ 9223372036854775807 := by omega
              have hb2 : 10 * v ≤ 9223372036854775807 := by omega
              have hb3 : 0 ≤ v := by omega
              have hn45 : ((48 + e : Int) == 45) = false := by rw [beq_eq_false_iff_ne]; omega
              have hu8 : IntKind.u8.wrap (48 + e - 48) = e := by rw [show 48 + e - 48 = e by omega]; exact IntWalk.u8_in _ (by omega)
              clear hd hstep hle hvo hgi h2
              go_wp2
              go_roundg (s.size - (i + 1))
              case measure => omega
              case rel => exact ⟨i + 1, 10 * v + e, by go_num, by go_num, hnew, by omega, by omega, rfl⟩
            · obtain rfl : i = s.size := by omega
              have hv2 : Hid (v = z) := Lib.hid (by rw [hv.out, hfin.out])
              clear hg
              go_wp2
              go_ret2
              exact ⟨by rw [← hv2.out]; rfl, below_up hb1 (below_up hb2 hb3)⟩

end Go.Proofs.YtcpkejpdpohfeaaGreatDoor
