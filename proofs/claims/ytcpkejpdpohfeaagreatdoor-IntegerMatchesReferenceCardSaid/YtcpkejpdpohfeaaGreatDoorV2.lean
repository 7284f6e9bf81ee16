/- The walk of the reference implementation's 'digits'. Conditions: sizes; the string is valid. -/
import Derived.Test.YtcpkejpdpohfeaaGreatDoorV1
namespace Go.Proofs.YtcpkejpdpohfeaaGreatDoor
open Go.RowKit Num
open Go.Shelf

/-- A sign, and the decimal digits of a number. -/
def RetDg (w : World) (neg : Bool) (n : Nat) (e : Ending) (w' : World) : Prop := ∃ v, e = .returned (.tuple #[.bool neg, v]) ∧ Rd w' v (dg 10 n) ∧ Below w.heap.size w w'

/-- The part of a valid string behind its sign. -/
theorem behind {s : ByteArray} {z : Int} (h : Is s z) : ∃ t : ByteArray, t.size ≤ 201 ∧ t.data.toList = Lib.decDigits z.natAbs ∧ ∃ h0 : 0 < s.size,
    ((z < 0 ∧ (((s[0]'h0).toNat : Int) == 45) = true ∧ t = s.extract 1 s.size ∧ (1 : Int) ≤ (s.size : Int) ∧ s.size ≤ 202 ∧ Hid (t.size = s.size - 1)) ∨ (¬ z < 0 ∧ (((s[0]'h0).toNat : Int) == 45) = false ∧ t = s)) := by
  have hs := h.eq
  have hz := h.size
  have hl : s.data.toList = Lib.itoa z := by rw [hs]; rfl
  have h0 : 0 < s.size := by
    rw [ByteArray.size, ← Array.length_toList, hl]
    by_cases k : z < 0
    · rw [itoa_neg k]; simp
    · rw [itoa_nonneg (by omega)]; exact List.length_pos_iff.2 (dec_ne _)
  by_cases k : z < 0
  · have hl2 : s.data.toList = 45 :: Lib.decDigits z.natAbs := by rw [hl, itoa_neg k]
    refine ⟨s.extract 1 s.size, by rw [ByteArray.size_extract]; omega, ?_, h0, .inl ⟨k, ?_, rfl, by omega, by omega, Lib.hid (by rw [ByteArray.size_extract]; omega)⟩⟩
    · rw [Lib.extract_to_end, hl2]; rfl
    · have : s[0]'h0 = 45 := by rw [← get_list]; simp [hl2]
      rw [this]; rfl
  · have hl2 : s.data.toList = Lib.decDigits z.natAbs := by rw [hl, itoa_nonneg (by omega)]
    refine ⟨s, by omega, hl2, h0, .inr ⟨k, ?_, rfl⟩⟩
    rw [beq_eq_false_iff_ne]
    intro q
    have h1 : s[0]'h0 = 45 := UInt8.toNat_inj.1 (by show _ = 45; omega)
    have h2 : (Lib.decDigits z.natAbs).head? = some 45 := by
      rw [← hl2, List.head?_eq_getElem?, List.getElem?_eq_getElem (by rw [Array.length_toList]; exact h0), get_list _ _ h0, h1]
    exact dec_head45 _ h2
theorem chr_toNat {d : Int} (h0 : 0 ≤ d) (h1 : d < 10) : ((chr d).toNat : Int) = 48 + d := by
  unfold chr
  rw [toNat_ch (by omega)]
  omega
/-- The digit that stands k places before the end. -/
theorem dec_at {t : ByteArray} {m : Nat} (ht : t.data.toList = Lib.decDigits m) (hm : 0 < m) : t.size = (dg 10 m).length ∧ ∀ j (h : j < t.size), ∃ hk : t.size - 1 - j < (dg 10 m).length, ((t[j]'h).toNat : Int) = 48 + (dg 10 m)[t.size - 1 - j] := by
  rw [dec_dg m hm] at ht
  have hs : t.size = (dg 10 m).length := by
    rw [ByteArray.size, ← Array.length_toList, ht, List.length_map, List.length_reverse]
  refine ⟨hs, fun j h => ⟨by omega, ?_⟩⟩
  have e : t[j]'h = chr ((dg 10 m)[t.size - 1 - j]'(by omega)) := by
    rw [← get_list]
    simp only [ht, List.getElem_map, List.getElem_reverse, hs]
  rw [e]
  have := dig_dg (by omega : 2 ≤ 10) m _ (List.getElem_mem (show t.size - 1 - j < (dg 10 m).length by omega))
  exact chr_toNat this.1 this.2

set_option maxHeartbeats 4000000 in
set_option maxRecDepth 100000 in
theorem digits_any {s : ByteArray} {z : Int} (hz : Is s z) (w : World) : Calls Tryz.prog 48 #[.string s] w (RetDg w (decide (z < 0)) z.natAbs) := by
  obtain ⟨t, hts, ht, h0, hc⟩ := behind hz
  have hs0 : (0 : Int) < (s.size : Int) := by omega
  clear hz
  generalize z.natAbs = m at *
  rcases Nat.eq_zero_or_pos m with rfl | hm
  · have h48 : (t.toList == [48]) = true := by
      rw [ByteArray.toList_eq, ht, dec_small (by omega)]; rfl
    have hd0 : Hid (dg 10 0 = []) := Lib.hid (dg_zero _)
    have hts1 : (0 : Int) ≤ (t.size : Int) - 1 := by
      have : t.data.toList.length = 1 := by rw [ht, dec_small (by omega)]; rfl
      rw [Array.length_toList] at this
      have h2 : t.size = 1 := this
      omega
    clear ht
    go_enter Tryz.func48, Tryz.ntmps48
    rcases hc with ⟨hn, h45, het, h1, hsz, hst⟩ | ⟨hn, h45, het⟩
    · rw [decide_eq_true hn]
      have HE := Lib.hid het
      clear hn het
      go_wp2
      rw [← HE.out]
      go_loopg [5, 6] 0 (fun kx s5 s6 wr => s5 = .slice none 0 0 ∧ s6 = .int .i64 ((t.size : Int) - 1) ∧ wr = w)
      case atStart => exact ⟨rfl, (by first | rfl | rw [hst.out]), rfl⟩
      case round =>
        obtain ⟨rfl, rfl, rfl⟩ := hrel
        go_wp2
        go_ret2
        exact ⟨_, rfl, by rw [hd0.out]; exact Rd.nil _, Below.refl _ _⟩
    · rw [decide_eq_false hn]
      subst het
      have hst : Hid (t.size = t.size) := Lib.hid rfl
      clear hn
      go_wp2
      go_loopg [5, 6] 0 (fun kx s5 s6 wr => s5 = .slice none 0 0 ∧ s6 = .int .i64 ((t.size : Int) - 1) ∧ wr = w)
      case atStart => exact ⟨rfl, (by first | rfl | rw [hst.out]), rfl⟩
      case round =>
        obtain ⟨rfl, rfl, rfl⟩ := hrel
        go_wp2
        go_ret2
        exact ⟨_, rfl, by rw [hd0.out]; exact Rd.nil _, Below.refl _ _⟩
  · have hda := Lib.hid (dec_at ht hm)
    have h48 : (t.toList == [48]) = false := by
      rw [ByteArray.toList_eq, ht, beq_eq_false_iff_ne]
      intro k
      have h1 : Lib.decDigits 0 = [48] := by rw [dec_small (by omega)]; rfl
      have := dval_dec m
      rw [k, ← h1, dval_dec] at this
      omega
    clear ht
    go_enter Tryz.func48, Tryz.ntmps48
    rcases hc with ⟨hn, h45, het, h1, hsz, hst⟩ | ⟨hn, h45, het⟩
    · rw [decide_eq_true hn]
      have HE := Lib.hid het
      clear hn het
      go_wp2
      rw [← HE.out]
      clear h45 hs0 h1 hsz
      go_loopg [5, 6] t.size (fun kx s5 s6 wr => ∃ (i : Int) (ys : List Int), s6 = .int .i64 i ∧ -1 ≤ i ∧ i < (t.size : Int) ∧ i + 1 ≤ kx ∧ Hid (ys = (dg 10 m).take ((t.size : Int) - 1 - i).toNat) ∧ Hid (ys.length = ((t.size : Int) - 1 - i).toNat) ∧ wr.ownsRow w.heap.size 3 1 s5 ys.length (ys.map (Value.int .i64)) ∧ Below w.heap.size w wr)
      case atStart =>
        have hst' := hst.out
        refine ⟨_, [], rfl, by omega, by omega, by omega, Lib.hid ?_, Lib.hid ?_, World.ownsRow_nil _ _ _ _, Below.refl _ _⟩
        · rw [Int.toNat_of_nonpos (by omega)]; rfl
        · rw [Int.toNat_of_nonpos (by omega)]; rfl
      case round =>
        obtain ⟨i, ys, rfl, hi0, hi1, hkx, hys, hyl, hown, hnx⟩ := hrel
        by_cases hg : 0 ≤ i
        · obtain ⟨j, rfl⟩ : ∃ j : Nat, i = j := ⟨i.toNat, by omega⟩
          have hj : j < t.size := by omega
          obtain ⟨hk, hx⟩ := hda.out.2 j hj
          have hdd := dig_dg (by omega : 2 ≤ 10) m _ (List.getElem_mem hk)
          have hnew : Hid (ys ++ [(dg 10 m)[t.size - 1 - j]] = (dg 10 m).take ((t.size : Int) - 1 - ((j : Int) - 1)).toNat) := Lib.hid (by
            rw [hys.out, show ((t.size : Int) - 1 - (j : Int)).toNat = t.size - 1 - j by omega, show ((t.size : Int) - 1 - ((j : Int) - 1)).toNat = t.size - 1 - j + 1 by omega, List.take_succ_eq_append_getElem hk])
          generalize (dg 10 m)[t.size - 1 - j] = d at *
          have hd1 : IntKind.u8.wrap (48 + d - 48) = d := by have := hdd.1; have := hdd.2; rw [show 48 + d - 48 = d by omega]; exact IntWalk.u8_in _ (by omega)
          obtain ⟨hd2, hd3⟩ := hdd
          have hw1 : IntKind.i64.wrap ((j : Int) - 1) = (j : Int) - 1 := IntWalk.i64_in _ (by omega)
          have HOWN := Lib.hid hown
          have hyn : ys.length ≤ 1000000 := by rw [hyl.out]; omega
          clear hown hk
          go_wp2_with (at_builtin; refine app_int rfl (.tmp 24) (.tmp 30) rfl w.heap.size _ ys d rfl HOWN.out rfl hyn hnx.size ?_; intro v' w3 hown3 hb3)
          go_roundg j
          case measure => omega
          case rel => exact ⟨_, ys ++ [d], by go_num, by omega, by omega, by omega, hnew, Lib.hid (by rw [List.length_append, hyl.out, List.length_singleton]; omega), hown3, hb3 _ _ hnx (Nat.le_refl _)⟩
        · obtain rfl : i = -1 := by omega
          have hyn : ys.length ≤ 1000000 := by rw [hyl.out]; omega
          have HR := Lib.hid (Rd.own hown hyn)
          have hfin : Hid (ys = dg 10 m) := Lib.hid (by
            rw [hys.out, show ((t.size : Int) - 1 - (-1)).toNat = (dg 10 m).length by rw [← hda.out.1]; omega, List.take_length])
          clear hown
          go_wp2
          go_ret2
          exact ⟨_, rfl, by rw [← hfin.out]; exact HR.out, hnx⟩
    · rw [decide_eq_false hn]
      subst het
      have hst : Hid (t.size = t.size) := Lib.hid rfl
      clear hn
      go_wp2
      clear hs0
      go_loopg [5, 6] t.size (fun kx s5 s6 wr => ∃ (i : Int) (ys : List Int), s6 = .int .i64 i ∧ -1 ≤ i ∧ i < (t.size : Int) ∧ i + 1 ≤ kx ∧ Hid (ys = (dg 10 m).take ((t.size : Int) - 1 - i).toNat) ∧ Hid (ys.length = ((t.size : Int) - 1 - i).toNat) ∧ wr.ownsRow w.heap.size 3 1 s5 ys.length (ys.map (Value.int .i64)) ∧ Below w.heap.size w wr)
      case atStart =>
        have hst' := hst.out
        refine ⟨_, [], rfl, by omega, by omega, by omega, Lib.hid ?_, Lib.hid ?_, World.ownsRow_nil _ _ _ _, Below.refl _ _⟩
        · rw [Int.toNat_of_nonpos (by omega)]; rfl
        · rw [Int.toNat_of_nonpos (by omega)]; rfl
      case round =>
        obtain ⟨i, ys, rfl, hi0, hi1, hkx, hys, hyl, hown, hnx⟩ := hrel
        by_cases hg : 0 ≤ i
        · obtain ⟨j, rfl⟩ : ∃ j : Nat, i = j := ⟨i.toNat, by omega⟩
          have hj : j < t.size := by omega
          obtain ⟨hk, hx⟩ := hda.out.2 j hj
          have hdd := dig_dg (by omega : 2 ≤ 10) m _ (List.getElem_mem hk)
          have hnew : Hid (ys ++ [(dg 10 m)[t.size - 1 - j]] = (dg 10 m).take ((t.size : Int) - 1 - ((j : Int) - 1)).toNat) := Lib.hid (by
            rw [hys.out, show ((t.size : Int) - 1 - (j : Int)).toNat = t.size - 1 - j by omega, show ((t.size : Int) - 1 - ((j : Int) - 1)).toNat = t.size - 1 - j + 1 by omega, List.take_succ_eq_append_getElem hk])
          generalize (dg 10 m)[t.size - 1 - j] = d at *
          have hd1 : IntKind.u8.wrap (48 + d - 48) = d := by have := hdd.1; have := hdd.2; rw [show 48 + d - 48 = d by omega]; exact IntWalk.u8_in _ (by omega)
          obtain ⟨hd2, hd3⟩ := hdd
          have hw1 : IntKind.i64.wrap ((j : Int) - 1) = (j : Int) - 1 := IntWalk.i64_in _ (by omega)
          have HOWN := Lib.hid hown
          have hyn : ys.length ≤ 1000000 := by rw [hyl.out]; omega
          clear hown hk
          go_wp2_with (at_builtin; refine app_int rfl (.tmp 24) (.tmp 30) rfl w.heap.size _ ys d rfl HOWN.out rfl hyn hnx.size ?_; intro v' w3 hown3 hb3)
          go_roundg j
          case measure => omega
          case rel => exact ⟨_, ys ++ [d], by go_num, by omega, by omega, by omega, hnew, Lib.hid (by rw [List.length_append, hyl.out, List.length_singleton]; omega), hown3, hb3 _ _ hnx (Nat.le_refl _)⟩
        · obtain rfl : i = -1 := by omega
          have hyn : ys.length ≤ 1000000 := by rw [hyl.out]; omega
          have HR := Lib.hid (Rd.own hown hyn)
          have hfin : Hid (ys = dg 10 m) := Lib.hid (by
            rw [hys.out, show ((t.size : Int) - 1 - (-1)).toNat = (dg 10 m).length by rw [← hda.out.1]; omega, List.take_length])
          clear hown
          go_wp2
          go_ret2
          exact ⟨_, rfl, by rw [← hfin.out]; exact HR.out, hnx⟩

end Go.Proofs.YtcpkejpdpohfeaaGreatDoor
