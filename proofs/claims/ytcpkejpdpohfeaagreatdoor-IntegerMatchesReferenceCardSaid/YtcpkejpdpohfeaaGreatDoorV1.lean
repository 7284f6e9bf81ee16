/- The walk of the reference implementation's 'Valid'. Conditions: sizes. -/
import Derived.Test.YtcpkejpdpohfeaaGreatDoorL4
import Derived.Laws.IdiomStrings
namespace Go.Proofs.YtcpkejpdpohfeaaGreatDoor
open Go.RowKit Num
open Go.Shelf

/-- What remains to be tested behind the sign. -/
def restV (l : List UInt8) : Bool := !l.isEmpty && decide (l.length ≤ 200) && l.all isD && (l == [48] || l.head? != some 48)
theorem all_take_succ {l : List UInt8} {k : Nat} (hk : k < l.length) (h : (l.take k).all isD = true) (hd : isD l[k] = true) : (l.take (k + 1)).all isD = true := by
  rw [List.take_succ_eq_append_getElem hk, List.all_append, h]
  simp [hd]
theorem not_all {l : List UInt8} {k : Nat} (hk : k < l.length) (hd : isD l[k] = false) : restV l = false := by
  have : l.all isD = false := by
    rw [List.all_eq_false]
    exact ⟨_, List.getElem_mem hk, by simp [hd]⟩
  unfold restV
  rw [this]
  simp
theorem get_list (t : ByteArray) (k : Nat) (h : k < t.size) : t.data.toList[k]'(by rw [Array.length_toList]; exact h) = t[k]'h := rfl
theorem isD_get {c : UInt8} : isD c = decide (48 ≤ c.toNat ∧ c.toNat ≤ 57) := rfl
/-- The three ways of the test. -/
theorem valid_minus {s : ByteArray} (h : 0 < s.size) (h45 : s[0]'h = 45) (h0 : ¬ s.data.toList = [45, 48]) : validL s.data.toList = restV (s.extract 1 s.size).data.toList := by
  have e : (s.extract 1 s.size).data.toList = s.data.toList.tail := by
    rw [Lib.extract_to_end]
    simp
  obtain ⟨c, l, hl⟩ : ∃ c l, s.data.toList = c :: l := by
    cases k : s.data.toList with
    | nil => rw [ByteArray.size, ← Array.length_toList, k] at h; simp at h
    | cons c l => exact ⟨c, l, rfl⟩
  have hc : c = 45 := by rw [← h45, ← get_list]; simp [hl]
  subst hc
  rw [e, hl]
  unfold validL restV
  have hb : body (45 :: l) = l := rfl
  rw [hb, List.tail_cons]
  have h2 : ((45 :: l : List UInt8) == [48]) = false := by
    rw [beq_eq_false_iff_ne]; intro k; injection k with k1; revert k1; decide
  rw [h2, Bool.false_or]
  by_cases k : l = [48]
  · exact absurd (by rw [hl, k]) h0
  · have h3 : (l == [48]) = false := by rw [beq_eq_false_iff_ne]; exact k
    rw [h3, Bool.false_or]
theorem valid_m0 {s : ByteArray} (h0 : s.data.toList = [45, 48]) : validL s.data.toList = false := by rw [h0]; rfl
theorem valid_plus {s : ByteArray} (h : ∀ h : 0 < s.size, s[0]'h ≠ 45) : validL s.data.toList = restV s.data.toList := by
  have hb : body s.data.toList = s.data.toList := by
    unfold body
    rw [if_neg]
    intro k
    cases e : s.data.toList with
    | nil => rw [e] at k; cases k
    | cons c l =>
      rw [e] at k
      have hs : 0 < s.size := by rw [ByteArray.size, ← Array.length_toList, e]; simp
      refine h hs ?_
      rw [← get_list]
      simp [e]
      simpa using k
  unfold validL restV
  rw [hb]
theorem restV_end {t : ByteArray} (hall : (t.data.toList.take t.size).all isD = true) (h0 : 0 < t.size) : restV t.data.toList = (decide (t.size ≤ 200) && (t.data.toList == [48] || t[0]'h0 != 48)) := by
  have hl : t.data.toList.length = t.size := Array.length_toList
  have ha : t.data.toList.all isD = true := by
    rw [← hl, List.take_length] at hall; exact hall
  unfold restV
  rw [ha, hl]
  have h1 : (t.data.toList.isEmpty) = false := by
    cases e : t.data.toList with
    | nil => rw [e] at hl; simp at hl; omega
    | cons c l => rfl
  have h2 : (t.data.toList.head? != some 48) = (t[0]'h0 != 48) := by
    rw [← get_list, ← List.head_eq_getElem (by rw [← List.length_pos_iff, hl]; exact h0), List.head?_eq_some_head (by rw [← List.length_pos_iff, hl]; exact h0)]
    rfl
  rw [h1, h2]
  simp

set_option maxHeartbeats 4000000 in
set_option maxRecDepth 100000 in
theorem rvalid_any (s : ByteArray) (hs : s.size ≤ 9223372036854775807) (w : World) : Calls Tryz.prog 33 #[.string s] w (RetB w (rdI s).isSome) := by
  have hv : (rdI s).isSome = validL s.data.toList := by
    unfold rdI
    cases validL s.data.toList <;> rfl
  rw [hv]
  clear hv
  have ht : ∃ t : ByteArray, t.size ≤ 9223372036854775807 ∧ ((∃ h : 0 < s.size, ((s[0]'h).toNat : Int) = 45 ∧ t = s.extract 1 s.size ∧ (((t.toList == [48]) = true ∧ validL s.data.toList = false) ∨ ((t.toList == [48]) = false ∧ validL s.data.toList = restV t.data.toList))) ∨
      (t = s ∧ validL s.data.toList = restV s.data.toList ∧ ((¬ (0 : Int) < (s.size : Int) ∧ s.size = 0) ∨ ∃ h : 0 < s.size, (0 : Int) < (s.size : Int) ∧ (((s[0]'h).toNat : Int) == 45) = false))) := by
    by_cases h0 : 0 < s.size
    · by_cases h45 : s[0]'h0 = 45
      · refine ⟨s.extract 1 s.size, by rw [ByteArray.size_extract]; omega, .inl ⟨h0, by rw [h45]; rfl, rfl, ?_⟩⟩
        have e : (s.extract 1 s.size).data.toList = s.data.toList.tail := by
          rw [Lib.extract_to_end]; simp
        by_cases hm : s.data.toList = [45, 48]
        · refine .inl ⟨?_, valid_m0 hm⟩
          rw [ByteArray.toList_eq, e, hm]; rfl
        · refine .inr ⟨?_, valid_minus h0 h45 hm⟩
          rw [ByteArray.toList_eq, e, beq_eq_false_iff_ne]
          intro k
          apply hm
          cases q : s.data.toList with
          | nil => rw [q] at k; cases k
          | cons c l =>
            rw [q] at k
            have hc : c = 45 := by rw [← h45, ← get_list]; simp [q]
            rw [hc]; simp at k; rw [k]
      · refine ⟨s, hs, .inr ⟨rfl, valid_plus (fun _ => h45), .inr ⟨h0, by omega, by rw [beq_eq_false_iff_ne]; exact fun k => h45 (UInt8.toNat_inj.1 (by show _ = 45; omega))⟩⟩⟩
    · exact ⟨s, hs, .inr ⟨rfl, valid_plus (fun h => absurd h h0), .inl ⟨by omega, by omega⟩⟩⟩
  obtain ⟨t, hts, ht⟩ := ht
  have fin : ∀ (a : Act), True := fun _ => trivial
  clear fin
  go_enter Tryz.func33, Tryz.ntmps33
  rcases ht with ⟨h0, h45, het, hz⟩ | ⟨het, hv, hz⟩
  · have hz0 : (0 : Int) < (s.size : Int) := by omega
    rcases hz with ⟨hz, hv⟩ | ⟨hz, hv⟩
    · rw [hv]
      subst het
      go_wp2
      go_ret
      exact ⟨rfl, Below.refl _ _⟩
    · rw [hv]
      have HE := Lib.hid het
      have hz' := hz
      rw [het] at hz'
      clear hv het
      go_wp2
      rw [← HE.out]
      clear hz hz' h45 hz0 h0 hs
      go_loopg [3] t.size (fun kx s3 wr => ∃ i : Nat, s3 = .int .i64 i ∧ i ≤ t.size ∧ t.size ≤ kx + i ∧ Hid ((t.data.toList.take i).all isD = true) ∧ wr = w)
      case atStart => exact ⟨0, rfl, by omega, by omega, Lib.hid rfl, rfl⟩
      case round =>
        obtain ⟨i, rfl, hi, hkx, hall, rfl⟩ := hrel
        by_cases hg : i < t.size
        · have hg' : (i : Int) < (t.size : Int) := by omega
          have hli : i < t.data.toList.length := by rw [Array.length_toList]; exact hg
          have hw1 : IntKind.i64.wrap ((i : Int) + 1) = (i : Int) + 1 := IntWalk.i64_in _ (by omega)
          by_cases hd1 : (t[i]'hg).toNat < 48
          · rw [not_all hli (by rw [get_list _ _ hg, isD_get]; simp; omega)]
            have hd1' : ((t[i]'hg).toNat : Int) < 48 := by omega
            clear hli
            go_wp2
            go_ret
            exact ⟨rfl, Below.refl _ _⟩
          · by_cases hd2 : 57 < (t[i]'hg).toNat
            · rw [not_all hli (by rw [get_list _ _ hg, isD_get]; simp; omega)]
              have hd1' : ¬ ((t[i]'hg).toNat : Int) < 48 := by omega
              have hd2' : (57 : Int) < ((t[i]'hg).toNat : Int) := by omega
              clear hli
              go_wp2
              go_ret
              exact ⟨rfl, Below.refl _ _⟩
            · have hstep := Lib.hid (all_take_succ hli hall.out (by rw [get_list _ _ hg, isD_get]; simp; omega))
              have hd1' : ¬ ((t[i]'hg).toNat : Int) < 48 := by omega
              have hd2' : ¬ (57 : Int) < ((t[i]'hg).toNat : Int) := by omega
              clear hli
              go_wp2
              go_roundg (t.size - (i + 1))
              case measure => omega
              case rel => exact ⟨i + 1, by go_num, by omega, by omega, hstep, rfl⟩
        · obtain rfl : i = t.size := by omega
          by_cases ht0 : 0 < t.size
          · have ht0' : (0 : Int) < (t.size : Int) := by omega
            have HR := restV_end hall.out ht0
            rw [← ByteArray.toList_eq] at HR
            by_cases h200 : t.size ≤ 200
            · have h200' : (t.size : Int) ≤ 200 := by omega
              rw [decide_eq_true h200, Bool.true_and] at HR
              cases hq : (t.toList == [48])
              · rw [hq, Bool.false_or] at HR
                by_cases hh : ((t[0]'ht0).toNat : Int) = 48
                · rw [show (t[0]'ht0 != 48) = false by rw [bne_eq_false_iff_eq]; exact UInt8.toNat_inj.1 (by show _ = 48; omega)] at HR
                  replace HR := Lib.hid HR
                  go_wp2
                  go_ret
                  exact ⟨by first | rfl | (rw [HR.out]; rfl) | (rw [← ByteArray.toList_eq, HR.out]; first | rfl | (show Ending.returned (.bool _) = _; simp; omega)), Below.refl _ _⟩
                · rw [show (t[0]'ht0 != 48) = true by rw [bne_iff_ne]; intro k; rw [k] at hh; exact hh rfl] at HR
                  replace HR := Lib.hid HR
                  go_wp2
                  go_ret
                  exact ⟨by first | rfl | (rw [HR.out]; rfl) | (rw [← ByteArray.toList_eq, HR.out]; first | rfl | (show Ending.returned (.bool _) = _; simp; omega)), Below.refl _ _⟩
              · rw [hq, Bool.true_or] at HR
                replace HR := Lib.hid HR
                go_wp2
                go_ret
                exact ⟨by first | rfl | (rw [HR.out]; rfl) | (rw [← ByteArray.toList_eq, HR.out]; first | rfl | (show Ending.returned (.bool _) = _; simp; omega)), Below.refl _ _⟩
            · have h200' : ¬ (t.size : Int) ≤ 200 := by omega
              rw [decide_eq_false h200, Bool.false_and] at HR
              replace HR := Lib.hid HR
              go_wp2
              go_ret
              exact ⟨by first | rfl | (rw [HR.out]; rfl) | (rw [← ByteArray.toList_eq, HR.out]; first | rfl | (show Ending.returned (.bool _) = _; simp; omega)), Below.refl _ _⟩
          · have ht0' : ¬ (0 : Int) < (t.size : Int) := by omega
            have he : t.data.toList = [] := List.length_eq_zero_iff.1 (by rw [Array.length_toList]; show t.size = 0; omega)
            have HR : Hid (restV t.data.toList = false) := Lib.hid (by rw [he]; rfl)
            clear he
            go_wp2
            go_ret
            exact ⟨by first | rfl | (rw [HR.out]; rfl) | (rw [← ByteArray.toList_eq, HR.out]; first | rfl | (show Ending.returned (.bool _) = _; simp; omega)), Below.refl _ _⟩
  · rw [hv]
    clear hv
    subst het
    rcases hz with ⟨hz, -⟩ | ⟨h0, hz0, h45⟩
    · go_wp2
      clear hz
      go_loopg [3] t.size (fun kx s3 wr => ∃ i : Nat, s3 = .int .i64 i ∧ i ≤ t.size ∧ t.size ≤ kx + i ∧ Hid ((t.data.toList.take i).all isD = true) ∧ wr = w)
      case atStart => exact ⟨0, rfl, by omega, by omega, Lib.hid rfl, rfl⟩
      case round =>
        obtain ⟨i, rfl, hi, hkx, hall, rfl⟩ := hrel
        by_cases hg : i < t.size
        · have hg' : (i : Int) < (t.size : Int) := by omega
          have hli : i < t.data.toList.length := by rw [Array.length_toList]; exact hg
          have hw1 : IntKind.i64.wrap ((i : Int) + 1) = (i : Int) + 1 := IntWalk.i64_in _ (by omega)
          by_cases hd1 : (t[i]'hg).toNat < 48
          · rw [not_all hli (by rw [get_list _ _ hg, isD_get]; simp; omega)]
            have hd1' : ((t[i]'hg).toNat : Int) < 48 := by omega
            clear hli
            go_wp2
            go_ret
            exact ⟨by first | rfl | (rw [HR.out]; rfl) | (rw [← ByteArray.toList_eq, HR.out]; first | rfl | (show Ending.returned (.bool _) = _; simp; omega)), Below.refl _ _⟩
          · by_cases hd2 : 57 < (t[i]'hg).toNat
            · rw [not_all hli (by rw [get_list _ _ hg, isD_get]; simp; omega)]
              have hd1' : ¬ ((t[i]'hg).toNat : Int) < 48 := by omega
              have hd2' : (57 : Int) < ((t[i]'hg).toNat : Int) := by omega
              clear hli
              go_wp2
              go_ret
              exact ⟨rfl, Below.refl _ _⟩
            · have hstep := Lib.hid (all_take_succ hli hall.out (by rw [get_list _ _ hg, isD_get]; simp; omega))
              have hd1' : ¬ ((t[i]'hg).toNat : Int) < 48 := by omega
              have hd2' : ¬ (57 : Int) < ((t[i]'hg).toNat : Int) := by omega
              clear hli
              go_wp2
              go_roundg (t.size - (i + 1))
              case measure => omega
              case rel => exact ⟨i + 1, by go_num, by omega, by omega, hstep, rfl⟩
        · obtain rfl : i = t.size := by omega
          by_cases ht0 : 0 < t.size
          · have ht0' : (0 : Int) < (t.size : Int) := by omega
            have HR := restV_end hall.out ht0
            rw [← ByteArray.toList_eq] at HR
            by_cases h200 : t.size ≤ 200
            · have h200' : (t.size : Int) ≤ 200 := by omega
              rw [decide_eq_true h200, Bool.true_and] at HR
              cases hq : (t.toList == [48])
              · rw [hq, Bool.false_or] at HR
                by_cases hh : ((t[0]'ht0).toNat : Int) = 48
                · rw [show (t[0]'ht0 != 48) = false by rw [bne_eq_false_iff_eq]; exact UInt8.toNat_inj.1 (by show _ = 48; omega)] at HR
                  replace HR := Lib.hid HR
                  go_wp2
                  go_ret
                  exact ⟨by first | rfl | (rw [HR.out]; rfl) | (rw [← ByteArray.toList_eq, HR.out]; first | rfl | (show Ending.returned (.bool _) = _; simp; omega)), Below.refl _ _⟩
                · rw [show (t[0]'ht0 != 48) = true by rw [bne_iff_ne]; intro k; rw [k] at hh; exact hh rfl] at HR
                  replace HR := Lib.hid HR
                  go_wp2
                  go_ret
                  exact ⟨by first | rfl | (rw [HR.out]; rfl) | (rw [← ByteArray.toList_eq, HR.out]; first | rfl | (show Ending.returned (.bool _) = _; simp; omega)), Below.refl _ _⟩
              · rw [hq, Bool.true_or] at HR
                replace HR := Lib.hid HR
                go_wp2
                go_ret
                exact ⟨by first | rfl | (rw [HR.out]; rfl) | (rw [← ByteArray.toList_eq, HR.out]; first | rfl | (show Ending.returned (.bool _) = _; simp; omega)), Below.refl _ _⟩
            · have h200' : ¬ (t.size : Int) ≤ 200 := by omega
              rw [decide_eq_false h200, Bool.false_and] at HR
              replace HR := Lib.hid HR
              go_wp2
              go_ret
              exact ⟨by first | rfl | (rw [HR.out]; rfl) | (rw [← ByteArray.toList_eq, HR.out]; first | rfl | (show Ending.returned (.bool _) = _; simp; omega)), Below.refl _ _⟩
          · have ht0' : ¬ (0 : Int) < (t.size : Int) := by omega
            have he : t.data.toList = [] := List.length_eq_zero_iff.1 (by rw [Array.length_toList]; show t.size = 0; omega)
            have HR : Hid (restV t.data.toList = false) := Lib.hid (by rw [he]; rfl)
            clear he
            go_wp2
            go_ret
            exact ⟨by first | rfl | (rw [HR.out]; rfl) | (rw [← ByteArray.toList_eq, HR.out]; first | rfl | (show Ending.returned (.bool _) = _; simp; omega)), Below.refl _ _⟩
    · go_wp2
      clear h45 hz0
      go_loopg [3] t.size (fun kx s3 wr => ∃ i : Nat, s3 = .int .i64 i ∧ i ≤ t.size ∧ t.size ≤ kx + i ∧ Hid ((t.data.toList.take i).all isD = true) ∧ wr = w)
      case atStart => exact ⟨0, rfl, by omega, by omega, Lib.hid rfl, rfl⟩
      case round =>
        obtain ⟨i, rfl, hi, hkx, hall, rfl⟩ := hrel
        by_cases hg : i < t.size
        · have hg' : (i : Int) < (t.size : Int) := by omega
          have hli : i < t.data.toList.length := by rw [Array.length_toList]; exact hg
          have hw1 : IntKind.i64.wrap ((i : Int) + 1) = (i : Int) + 1 := IntWalk.i64_in _ (by omega)
          by_cases hd1 : (t[i]'hg).toNat < 48
          · rw [not_all hli (by rw [get_list _ _ hg, isD_get]; simp; omega)]
            have hd1' : ((t[i]'hg).toNat : Int) < 48 := by omega
            clear hli
            go_wp2
            go_ret
            exact ⟨by first | rfl | (rw [HR.out]; rfl) | (rw [← ByteArray.toList_eq, HR.out]; first | rfl | (show Ending.returned (.bool _) = _; simp; omega)), Below.refl _ _⟩
          · by_cases hd2 : 57 < (t[i]'hg).toNat
            · rw [not_all hli (by rw [get_list _ _ hg, isD_get]; simp; omega)]
              have hd1' : ¬ ((t[i]'hg).toNat : Int) < 48 := by omega
              have hd2' : (57 : Int) < ((t[i]'hg).toNat : Int) := by omega
              clear hli
              go_wp2
              go_ret
              exact ⟨rfl, Below.refl _ _⟩
            · have hstep := Lib.hid (all_take_succ hli hall.out (by rw [get_list _ _ hg, isD_get]; simp; omega))
              have hd1' : ¬ ((t[i]'hg).toNat : Int) < 48 := by omega
              have hd2' : ¬ (57 : Int) < ((t[i]'hg).toNat : Int) := by omega
              clear hli
              go_wp2
              go_roundg (t.size - (i + 1))
              case measure => omega
              case rel => exact ⟨i + 1, by go_num, by omega, by omega, hstep, rfl⟩
        · obtain rfl : i = t.size := by omega
          by_cases ht0 : 0 < t.size
          · have ht0' : (0 : Int) < (t.size : Int) := by omega
            have HR := restV_end hall.out ht0
            rw [← ByteArray.toList_eq] at HR
            by_cases h200 : t.size ≤ 200
            · have h200' : (t.size : Int) ≤ 200 := by omega
              rw [decide_eq_true h200, Bool.true_and] at HR
              cases hq : (t.toList == [48])
              · rw [hq, Bool.false_or] at HR
                by_cases hh : ((t[0]'ht0).toNat : Int) = 48
                · rw [show (t[0]'ht0 != 48) = false by rw [bne_eq_false_iff_eq]; exact UInt8.toNat_inj.1 (by show _ = 48; omega)] at HR
                  replace HR := Lib.hid HR
                  go_wp2
                  go_ret
                  exact ⟨by first | rfl | (rw [HR.out]; rfl) | (rw [← ByteArray.toList_eq, HR.out]; first | rfl | (show Ending.returned (.bool _) = _; simp; omega)), Below.refl _ _⟩
                · rw [show (t[0]'ht0 != 48) = true by rw [bne_iff_ne]; intro k; rw [k] at hh; exact hh rfl] at HR
                  replace HR := Lib.hid HR
                  go_wp2
                  go_ret
                  exact ⟨by first | rfl | (rw [HR.out]; rfl) | (rw [← ByteArray.toList_eq, HR.out]; first | rfl | (show Ending.returned (.bool _) = _; simp; omega)), Below.refl _ _⟩
              · rw [hq, Bool.true_or] at HR
                replace HR := Lib.hid HR
                go_wp2
                go_ret
                exact ⟨by first | rfl | (rw [HR.out]; rfl) | (rw [← ByteArray.toList_eq, HR.out]; first | rfl | (show Ending.returned (.bool _) = _; simp; omega)), Below.refl _ _⟩
            · have h200' : ¬ (t.size : Int) ≤ 200 := by omega
              rw [decide_eq_false h200, Bool.false_and] at HR
              replace HR := Lib.hid HR
              go_wp2
              go_ret
              exact ⟨by first | rfl | (rw [HR.out]; rfl) | (rw [← ByteArray.toList_eq, HR.out]; first | rfl | (show Ending.returned (.bool _) = _; simp; omega)), Below.refl _ _⟩
          · exact absurd h0 ht0

end Go.Proofs.YtcpkejpdpohfeaaGreatDoor
