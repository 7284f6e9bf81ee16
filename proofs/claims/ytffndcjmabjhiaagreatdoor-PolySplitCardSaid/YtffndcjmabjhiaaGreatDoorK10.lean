/- The walk of the reference implementation's 'Valid'. Conditions: sizes. The walk of the reference implementation's 'digits'. Conditions: sizes; the string is valid. The walk of the reference implementation's 'order'. Conditions: sizes. -/
import Derived.Test.YtffndcjmabjhiaaGreatDoorK6
import Derived.Laws.IdiomStrings
import Derived.Deep.RegionHeld3
namespace Go.Proofs.YtffndcjmabjhiaaGreatDoor
open Go.RowKit Num
open Go.Shelf

/-- What remains to be tested behind the sign. -/
def restV (l : List UInt8) : Bool := !l.isEmpty && decide (l.length ≤ 200) && l.all isD && (l == [48] || l.head? != some 48)
theorem all_take_succ {l : List UInt8} {k : Nat} (hk : k < l.length) (h : (l.take k).all isD = true) (hd : isD l[k] = true) : (l.take (k + 1)).all isD = true := by
  rw [List.take_succ_eq_append_getElem hk, List.all_append, h]
  simp [hd]
theorem not_all {l : List UInt8} {k : Nat} (hk : k < l.length) (hd : isD l[k] = false) : restV l = false := by
  have : l.all isD = false := by
    rw [List.all_eq_false]
    exact ⟨_, List.getElem_mem hk, by simp [hd]⟩
  unfold restV
  rw [this]
  simp
theorem get_list (t : ByteArray) (k : Nat) (h : k < t.size) : t.data.toList[k]'(by rw [Array.length_toList]; exact h) = t[k]'h := rfl
theorem isD_get {c : UInt8} : isD c = decide (48 ≤ c.toNat ∧ c.toNat ≤ 57) := rfl
/-- The three ways of the test. -/
theorem valid_minus {s : ByteArray} (h : 0 < s.size) (h45 : s[0]'h = 45) (h0 : ¬ s.data.toList = [45, 48]) : validL s.data.toList = restV (s.extract 1 s.size).data.toList := by
  have e : (s.extract 1 s.size).data.toList = s.data.toList.tail := by
    rw [Lib.extract_to_end]
    simp
  obtain ⟨c, l, hl⟩ : ∃ c l, s.data.toList = c :: l := by
    cases k : s.data.toList with
    | nil => rw [ByteArray.size, ← Array.length_toList, k] at h; simp at h
    | cons c l => exact ⟨c, l, rfl⟩
  have hc : c = 45 := by rw [← h45, ← get_list]; simp [hl]
  subst hc
  rw [e, hl]
  unfold validL restV
  have hb : body (45 :: l) = l := rfl
  rw [hb, List.tail_cons]
  have h2 : ((45 :: l : List UInt8) == [48]) = false := by
    rw [beq_eq_false_iff_ne]; intro k; injection k with k1; revert k1; decide
  rw [h2, Bool.false_or]
  by_cases k : l = [48]
  · exact absurd (by rw [hl, k]) h0
  · have h3 : (l == [48]) = false := by rw [beq_eq_false_iff_ne]; exact k
    rw [h3, Bool.false_or]
theorem valid_m0 {s : ByteArray} (h0 : s.data.toList = [45, 48]) : validL s.data.toList = false := by rw [h0]; rfl
theorem valid_plus {s : ByteArray} (h : ∀ h : 0 < s.size, s[0]'h ≠ 45) : validL s.data.toList = restV s.data.toList := by
  have hb : body s.data.toList = s.data.toList := by
    unfold body
    rw [if_neg]
    intro k
    cases e : s.data.toList with
    | nil => rw [e] at k; cases k
    | cons c l =>
      rw [e] at k
      have hs : 0 < s.size := by rw [ByteArray.size, ← Array.length_toList, e]; simp
      refine h hs ?_
      rw [← get_list]
      simp [e]
      simpa using k
  unfold validL restV
  rw [hb]
theorem restV_end {t : ByteArray} (hall : (t.data.toList.take t.size).all isD = true) (h0 : 0 < t.size) : restV t.data.toList = (decide (t.size ≤ 200) && (t.data.toList == [48] || t[0]'h0 != 48)) := by
  have hl : t.data.toList.length = t.size := Array.length_toList
  have ha : t.data.toList.all isD = true := by
    rw [← hl, List.take_length] at hall; exact hall
  unfold restV
  rw [ha, hl]
  have h1 : (t.data.toList.isEmpty) = false := by
    cases e : t.data.toList with
    | nil => rw [e] at hl; simp at hl; omega
    | cons c l => rfl
  have h2 : (t.data.toList.head? != some 48) = (t[0]'h0 != 48) := by
    rw [← get_list, ← List.head_eq_getElem (by rw [← List.length_pos_iff, hl]; exact h0), List.head?_eq_some_head (by rw [← List.length_pos_iff, hl]; exact h0)]
    rfl
  rw [h1, h2]
  simp

set_option maxHeartbeats 4000000 in
set_option maxRecDepth 100000 in
theorem rvalid_any (s : ByteArray) (hs : s.size ≤ 9223372036854775807) (w : World) : Calls Tryz.prog 223 #[.string s] w (RetB w (rdI s).isSome) := by
  have hv : (rdI s).isSome = validL s.data.toList := by
    unfold rdI
    cases validL s.data.toList <;> rfl
  rw [hv]
  clear hv
  have ht : ∃ t : ByteArray, t.size ≤ 9223372036854775807 ∧ ((∃ h : 0 < s.size, ((s[0]'h).toNat : Int) = 45 ∧ t = s.extract 1 s.size ∧ (((t.toList == [48]) = true ∧ validL s.data.toList = false) ∨ ((t.toList == [48]) = false ∧ validL s.data.toList = restV t.data.toList))) ∨
      (t = s ∧ validL s.data.toList = restV s.data.toList ∧ ((¬ (0 : Int) < (s.size : Int) ∧ s.size = 0) ∨ ∃ h : 0 < s.size, (0 : Int) < (s.size : Int) ∧ (((s[0]'h).toNat : Int) == 45) = false))) := by
    by_cases h0 : 0 < s.size
    · by_cases h45 : s[0]'h0 = 45
      · refine ⟨s.extract 1 s.size, by rw [ByteArray.size_extract]; omega, .inl ⟨h0, by rw [h45]; rfl, rfl, ?_⟩⟩
        have e : (s.extract 1 s.size).data.toList = s.data.toList.tail := by
          rw [Lib.extract_to_end]; simp
        by_cases hm : s.data.toList = [45, 48]
        · refine .inl ⟨?_, valid_m0 hm⟩
          rw [ByteArray.toList_eq, e, hm]; rfl
        · refine .inr ⟨?_, valid_minus h0 h45 hm⟩
          rw [ByteArray.toList_eq, e, beq_eq_false_iff_ne]
          intro k
          apply hm
          cases q : s.data.toList with
          | nil => rw [q] at k; cases k
          | cons c l =>
            rw [q] at k
            have hc : c = 45 := by rw [← h45, ← get_list]; simp [q]
            rw [hc]; simp at k; rw [k]
      · refine ⟨s, hs, .inr ⟨rfl, valid_plus (fun _ => h45), .inr ⟨h0, by omega, by rw [beq_eq_false_iff_ne]; exact fun k => h45 (UInt8.toNat_inj.1 (by show _ = 45; omega))⟩⟩⟩
    · exact ⟨s, hs, .inr ⟨rfl, valid_plus (fun h => absurd h h0), .inl ⟨by omega, by omega⟩⟩⟩
  obtain ⟨t, hts, ht⟩ := ht
  have fin : ∀ (a : Act), True := fun _ => trivial
  clear fin
  go_enter Tryz.func223, Tryz.ntmps223
  rcases ht with ⟨h0, h45, het, hz⟩ | ⟨het, hv, hz⟩
  · have hz0 : (0 : Int) < (s.size : Int) := by omega
    rcases hz with ⟨hz, hv⟩ | ⟨hz, hv⟩
    · rw [hv]
      subst het
      go_wp2
      go_ret
      exact ⟨rfl, Below.refl _ _⟩
    · rw [hv]
      have HE := Lib.hid het
      have hz' := hz
      rw [het] at hz'
      clear hv het
      go_wp2
      rw [← HE.out]
      clear hz hz' h45 hz0 h0 hs
      go_loopg [3] t.size (fun kx s3 wr => ∃ i : Nat, s3 = .int .i64 i ∧ i ≤ t.size ∧ t.size ≤ kx + i ∧ Hid ((t.data.toList.take i).all isD = true) ∧ wr = w)
      case atStart => exact ⟨0, rfl, by omega, by omega, Lib.hid rfl, rfl⟩
      case round =>
        obtain ⟨i, rfl, hi, hkx, hall, rfl⟩ := hrel
        by_cases hg : i < t.size
        · have hg' : (i : Int) < (t.size : Int) := by omega
          have hli : i < t.data.toList.length := by rw [Array.length_toList]; exact hg
          have hw1 : IntKind.i64.wrap ((i : Int) + 1) = (i : Int) + 1 := IntWalk.i64_in _ (by omega)
          by_cases hd1 : (t[i]'hg).toNat < 48
          · rw [not_all hli (by rw [get_list _ _ hg, isD_get]; simp; omega)]
            have hd1' : ((t[i]'hg).toNat : Int) < 48 := by omega
            clear hli
            go_wp2
            go_ret
            exact ⟨rfl, Below.refl _ _⟩
          · by_cases hd2 : 57 < (t[i]'hg).toNat
            · rw [not_all hli (by rw [get_list _ _ hg, isD_get]; simp; omega)]
              have hd1' : ¬ ((t[i]'hg).toNat : Int) < 48 := by omega
              have hd2' : (57 : Int) < ((t[i]'hg).toNat : Int) := by omega
              clear hli
              go_wp2
              go_ret
              exact ⟨rfl, Below.refl _ _⟩
            · have hstep := Lib.hid (all_take_succ hli hall.out (by rw [get_list _ _ hg, isD_get]; simp; omega))
              have hd1' : ¬ ((t[i]'hg).toNat : Int) < 48 := by omega
              have hd2' : ¬ (57 : Int) < ((t[i]'hg).toNat : Int) := by omega
              clear hli
              go_wp2
              go_roundg (t.size - (i + 1))
              case measure => omega
              case rel => exact ⟨i + 1, by go_num, by omega, by omega, hstep, rfl⟩
        · obtain rfl : i = t.size := by omega
          by_cases ht0 : 0 < t.size
          · have ht0' : (0 : Int) < (t.size : Int) := by omega
            have HR := restV_end hall.out ht0
            rw [← ByteArray.toList_eq] at HR
            by_cases h200 : t.size ≤ 200
            · have h200' : (t.size : Int) ≤ 200 := by omega
              rw [decide_eq_true h200, Bool.true_and] at HR
              cases hq : (t.toList == [48])
              · rw [hq, Bool.false_or] at HR
                by_cases hh : ((t[0]'ht0).toNat : Int) = 48
                · rw [show (t[0]'ht0 != 48) = false by rw [bne_eq_false_iff_eq]; exact UInt8.toNat_inj.1 (by show _ = 48; omega)] at HR
                  replace HR := Lib.hid HR
                  go_wp2
                  go_ret
                  exact ⟨by first | rfl | (rw [HR.out]; rfl) | (rw [← ByteArray.toList_eq, HR.out]; first | rfl | (show Ending.returned (.bool _) = _; simp; omega)), Below.refl _ _⟩
                · rw [show (t[0]'ht0 != 48) = true by rw [bne_iff_ne]; intro k; rw [k] at hh; exact hh rfl] at HR
                  replace HR := Lib.hid HR
                  go_wp2
                  go_ret
                  exact ⟨by first | rfl | (rw [HR.out]; rfl) | (rw [← ByteArray.toList_eq, HR.out]; first | rfl | (show Ending.returned (.bool _) = _; simp; omega)), Below.refl _ _⟩
              · rw [hq, Bool.true_or] at HR
                replace HR := Lib.hid HR
                go_wp2
                go_ret
                exact ⟨by first | rfl | (rw [HR.out]; rfl) | (rw [← ByteArray.toList_eq, HR.out]; first | rfl | (show Ending.returned (.bool _) = _; simp; omega)), Below.refl _ _⟩
            · have h200' : ¬ (t.size : Int) ≤ 200 := by omega
              rw [decide_eq_false h200, Bool.false_and] at HR
              replace HR := Lib.hid HR
              go_wp2
              go_ret
              exact ⟨by first | rfl | (rw [HR.out]; rfl) | (rw [← ByteArray.toList_eq, HR.out]; first | rfl | (show Ending.returned (.bool _) = _; simp; omega)), Below.refl _ _⟩
          · have ht0' : ¬ (0 : Int) < (t.size : Int) := by omega
            have he : t.data.toList = [] := List.length_eq_zero_iff.1 (by rw [Array.length_toList]; show t.size = 0; omega)
            have HR : Hid (restV t.data.toList = false) := Lib.hid (by rw [he]; rfl)
            clear he
            go_wp2
            go_ret
            exact ⟨by first | rfl | (rw [HR.out]; rfl) | (rw [← ByteArray.toList_eq, HR.out]; first | rfl | (show Ending.returned (.bool _) = _; simp; omega)), Below.refl _ _⟩
  · rw [hv]
    clear hv
    subst het
    rcases hz with ⟨hz, -⟩ | ⟨h0, hz0, h45⟩
    · go_wp2
      clear hz
      go_loopg [3] t.size (fun kx s3 wr => ∃ i : Nat, s3 = .int .i64 i ∧ i ≤ t.size ∧ t.size ≤ kx + i ∧ Hid ((t.data.toList.take i).all isD = true) ∧ wr = w)
      case atStart => exact ⟨0, rfl, by omega, by omega, Lib.hid rfl, rfl⟩
      case round =>
        obtain ⟨i, rfl, hi, hkx, hall, rfl⟩ := hrel
        by_cases hg : i < t.size
        · have hg' : (i : Int) < (t.size : Int) := by omega
          have hli : i < t.data.toList.length := by rw [Array.length_toList]; exact hg
          have hw1 : IntKind.i64.wrap ((i : Int) + 1) = (i : Int) + 1 := IntWalk.i64_in _ (by omega)
          by_cases hd1 : (t[i]'hg).toNat < 48
          · rw [not_all hli (by rw [get_list _ _ hg, isD_get]; simp; omega)]
            have hd1' : ((t[i]'hg).toNat : Int) < 48 := by omega
            clear hli
            go_wp2
            go_ret
            exact ⟨by first | rfl | (rw [HR.out]; rfl) | (rw [← ByteArray.toList_eq, HR.out]; first | rfl | (show Ending.returned (.bool _) = _; simp; omega)), Below.refl _ _⟩
          · by_cases hd2 : 57 < (t[i]'hg).toNat
            · rw [not_all hli (by rw [get_list _ _ hg, isD_get]; simp; omega)]
              have hd1' : ¬ ((t[i]'hg).toNat : Int) < 48 := by omega
              have hd2' : (57 : Int) < ((t[i]'hg).toNat : Int) := by omega
              clear hli
              go_wp2
              go_ret
              exact ⟨rfl, Below.refl _ _⟩
            · have hstep := Lib.hid (all_take_succ hli hall.out (by rw [get_list _ _ hg, isD_get]; simp; omega))
              have hd1' : ¬ ((t[i]'hg).toNat : Int) < 48 := by omega
              have hd2' : ¬ (57 : Int) < ((t[i]'hg).toNat : Int) := by omega
              clear hli
              go_wp2
              go_roundg (t.size - (i + 1))
              case measure => omega
              case rel => exact ⟨i + 1, by go_num, by omega, by omega, hstep, rfl⟩
        · obtain rfl : i = t.size := by omega
          by_cases ht0 : 0 < t.size
          · have ht0' : (0 : Int) < (t.size : Int) := by omega
            have HR := restV_end hall.out ht0
            rw [← ByteArray.toList_eq] at HR
            by_cases h200 : t.size ≤ 200
            · have h200' : (t.size : Int) ≤ 200 := by omega
              rw [decide_eq_true h200, Bool.true_and] at HR
              cases hq : (t.toList == [48])
              · rw [hq, Bool.false_or] at HR
                by_cases hh : ((t[0]'ht0).toNat : Int) = 48
                · rw [show (t[0]'ht0 != 48) = false by rw [bne_eq_false_iff_eq]; exact UInt8.toNat_inj.1 (by show _ = 48; omega)] at HR
                  replace HR := Lib.hid HR
                  go_wp2
                  go_ret
                  exact ⟨by first | rfl | (rw [HR.out]; rfl) | (rw [← ByteArray.toList_eq, HR.out]; first | rfl | (show Ending.returned (.bool _) = _; simp; omega)), Below.refl _ _⟩
                · rw [show (t[0]'ht0 != 48) = true by rw [bne_iff_ne]; intro k; rw [k] at hh; exact hh rfl] at HR
                  replace HR := Lib.hid HR
                  go_wp2
                  go_ret
                  exact ⟨by first | rfl | (rw [HR.out]; rfl) | (rw [← ByteArray.toList_eq, HR.out]; first | rfl | (show Ending.returned (.bool _) = _; simp; omega)), Below.refl _ _⟩
              · rw [hq, Bool.true_or] at HR
                replace HR := Lib.hid HR
                go_wp2
                go_ret
                exact ⟨by first | rfl | (rw [HR.out]; rfl) | (rw [← ByteArray.toList_eq, HR.out]; first | rfl | (show Ending.returned (.bool _) = _; simp; omega)), Below.refl _ _⟩
            · have h200' : ¬ (t.size : Int) ≤ 200 := by omega
              rw [decide_eq_false h200, Bool.false_and] at HR
              replace HR := Lib.hid HR
              go_wp2
              go_ret
              exact ⟨by first | rfl | (rw [HR.out]; rfl) | (rw [← ByteArray.toList_eq, HR.out]; first | rfl | (show Ending.returned (.bool _) = _; simp; omega)), Below.refl _ _⟩
          · have ht0' : ¬ (0 : Int) < (t.size : Int) := by omega
            have he : t.data.toList = [] := List.length_eq_zero_iff.1 (by rw [Array.length_toList]; show t.size = 0; omega)
            have HR : Hid (restV t.data.toList = false) := Lib.hid (by rw [he]; rfl)
            clear he
            go_wp2
            go_ret
            exact ⟨by first | rfl | (rw [HR.out]; rfl) | (rw [← ByteArray.toList_eq, HR.out]; first | rfl | (show Ending.returned (.bool _) = _; simp; omega)), Below.refl _ _⟩
    · go_wp2
      clear h45 hz0
      go_loopg [3] t.size (fun kx s3 wr => ∃ i : Nat, s3 = .int .i64 i ∧ i ≤ t.size ∧ t.size ≤ kx + i ∧ Hid ((t.data.toList.take i).all isD = true) ∧ wr = w)
      case atStart => exact ⟨0, rfl, by omega, by omega, Lib.hid rfl, rfl⟩
      case round =>
        obtain ⟨i, rfl, hi, hkx, hall, rfl⟩ := hrel
        by_cases hg : i < t.size
        · have hg' : (i : Int) < (t.size : Int) := by omega
          have hli : i < t.data.toList.length := by rw [Array.length_toList]; exact hg
          have hw1 : IntKind.i64.wrap ((i : Int) + 1) = (i : Int) + 1 := IntWalk.i64_in _ (by omega)
          by_cases hd1 : (t[i]'hg).toNat < 48
          · rw [not_all hli (by rw [get_list _ _ hg, isD_get]; simp; omega)]
            have hd1' : ((t[i]'hg).toNat : Int) < 48 := by omega
            clear hli
            go_wp2
            go_ret
            exact ⟨by first | rfl | (rw [HR.out]; rfl) | (rw [← ByteArray.toList_eq, HR.out]; first | rfl | (show Ending.returned (.bool _) = _; simp; omega)), Below.refl _ _⟩
          · by_cases hd2 : 57 < (t[i]'hg).toNat
            · rw [not_all hli (by rw [get_list _ _ hg, isD_get]; simp; omega)]
              have hd1' : ¬ ((t[i]'hg).toNat : Int) < 48 := by omega
              have hd2' : (57 : Int) < ((t[i]'hg).toNat : Int) := by omega
              clear hli
              go_wp2
              go_ret
              exact ⟨rfl, Below.refl _ _⟩
            · have hstep := Lib.hid (all_take_succ hli hall.out (by rw [get_list _ _ hg, isD_get]; simp; omega))
              have hd1' : ¬ ((t[i]'hg).toNat : Int) < 48 := by omega
              have hd2' : ¬ (57 : Int) < ((t[i]'hg).toNat : Int) := by omega
              clear hli
              go_wp2
              go_roundg (t.size - (i + 1))
              case measure => omega
              case rel => exact ⟨i + 1, by go_num, by omega, by omega, hstep, rfl⟩
        · obtain rfl : i = t.size := by omega
          by_cases ht0 : 0 < t.size
          · have ht0' : (0 : Int) < (t.size : Int) := by omega
            have HR := restV_end hall.out ht0
            rw [← ByteArray.toList_eq] at HR
            by_cases h200 : t.size ≤ 200
            · have h200' : (t.size : Int) ≤ 200 := by omega
              rw [decide_eq_true h200, Bool.true_and] at HR
              cases hq : (t.toList == [48])
              · rw [hq, Bool.false_or] at HR
                by_cases hh : ((t[0]'ht0).toNat : Int) = 48
                · rw [show (t[0]'ht0 != 48) = false by rw [bne_eq_false_iff_eq]; exact UInt8.toNat_inj.1 (by show _ = 48; omega)] at HR
                  replace HR := Lib.hid HR
                  go_wp2
                  go_ret
                  exact ⟨by first | rfl | (rw [HR.out]; rfl) | (rw [← ByteArray.toList_eq, HR.out]; first | rfl | (show Ending.returned (.bool _) = _; simp; omega)), Below.refl _ _⟩
                · rw [show (t[0]'ht0 != 48) = true by rw [bne_iff_ne]; intro k; rw [k] at hh; exact hh rfl] at HR
                  replace HR := Lib.hid HR
                  go_wp2
                  go_ret
                  exact ⟨by first | rfl | (rw [HR.out]; rfl) | (rw [← ByteArray.toList_eq, HR.out]; first | rfl | (show Ending.returned (.bool _) = _; simp; omega)), Below.refl _ _⟩
              · rw [hq, Bool.true_or] at HR
                replace HR := Lib.hid HR
                go_wp2
                go_ret
                exact ⟨by first | rfl | (rw [HR.out]; rfl) | (rw [← ByteArray.toList_eq, HR.out]; first | rfl | (show Ending.returned (.bool _) = _; simp; omega)), Below.refl _ _⟩
            · have h200' : ¬ (t.size : Int) ≤ 200 := by omega
              rw [decide_eq_false h200, Bool.false_and] at HR
              replace HR := Lib.hid HR
              go_wp2
              go_ret
              exact ⟨by first | rfl | (rw [HR.out]; rfl) | (rw [← ByteArray.toList_eq, HR.out]; first | rfl | (show Ending.returned (.bool _) = _; simp; omega)), Below.refl _ _⟩
          · exact absurd h0 ht0

end Go.Proofs.YtffndcjmabjhiaaGreatDoor

namespace Go.Proofs.YtffndcjmabjhiaaGreatDoor
open Go.RowKit Num
open Go.Shelf

/-- A sign, and the decimal digits of a number. -/
def RetDg (w : World) (neg : Bool) (n : Nat) (e : Ending) (w' : World) : Prop := ∃ v, e = .returned (.tuple #[.bool neg, v]) ∧ Rd w' v (dg 10 n) ∧ Below w.heap.size w w'

/-- The part of a valid string behind its sign. -/
theorem behind {s : ByteArray} {z : Int} (h : Is s z) : ∃ t : ByteArray, t.size ≤ 201 ∧ t.data.toList = Lib.decDigits z.natAbs ∧ ∃ h0 : 0 < s.size,
    ((z < 0 ∧ (((s[0]'h0).toNat : Int) == 45) = true ∧ t = s.extract 1 s.size ∧ (1 : Int) ≤ (s.size : Int) ∧ s.size ≤ 202 ∧ Hid (t.size = s.size - 1)) ∨ (¬ z < 0 ∧ (((s[0]'h0).toNat : Int) == 45) = false ∧ t = s)) := by
  have hs := h.eq
  have hz := h.size
  have hl : s.data.toList = Lib.itoa z := by rw [hs]; rfl
  have h0 : 0 < s.size := by
    rw [ByteArray.size, ← Array.length_toList, hl]
    by_cases k : z < 0
    · rw [itoa_neg k]; simp
    · rw [itoa_nonneg (by omega)]; exact List.length_pos_iff.2 (dec_ne _)
  by_cases k : z < 0
  · have hl2 : s.data.toList = 45 :: Lib.decDigits z.natAbs := by rw [hl, itoa_neg k]
    refine ⟨s.extract 1 s.size, by rw [ByteArray.size_extract]; omega, ?_, h0, .inl ⟨k, ?_, rfl, by omega, by omega, Lib.hid (by rw [ByteArray.size_extract]; omega)⟩⟩
    · rw [Lib.extract_to_end, hl2]; rfl
    · have : s[0]'h0 = 45 := by rw [← get_list]; simp [hl2]
      rw [this]; rfl
  · have hl2 : s.data.toList = Lib.decDigits z.natAbs := by rw [hl, itoa_nonneg (by omega)]
    refine ⟨s, by omega, hl2, h0, .inr ⟨k, ?_, rfl⟩⟩
    rw [beq_eq_false_iff_ne]
    intro q
    have h1 : s[0]'h0 = 45 := UInt8.toNat_inj.1 (by show _ = 45; omega)
    have h2 : (Lib.decDigits z.natAbs).head? = some 45 := by
      rw [← hl2, List.head?_eq_getElem?, List.getElem?_eq_getElem (by rw [Array.length_toList]; exact h0), get_list _ _ h0, h1]
    exact dec_head45 _ h2
theorem chr_toNat {d : Int} (h0 : 0 ≤ d) (h1 : d < 10) : ((chr d).toNat : Int) = 48 + d := by
  unfold chr
  rw [toNat_ch (by omega)]
  omega
/-- The digit that stands k places before the end. -/
theorem dec_at {t : ByteArray} {m : Nat} (ht : t.data.toList = Lib.decDigits m) (hm : 0 < m) : t.size = (dg 10 m).length ∧ ∀ j (h : j < t.size), ∃ hk : t.size - 1 - j < (dg 10 m).length, ((t[j]'h).toNat : Int) = 48 + (dg 10 m)[t.size - 1 - j] := by
  rw [dec_dg m hm] at ht
  have hs : t.size = (dg 10 m).length := by
    rw [ByteArray.size, ← Array.length_toList, ht, List.length_map, List.length_reverse]
  refine ⟨hs, fun j h => ⟨by omega, ?_⟩⟩
  have e : t[j]'h = chr ((dg 10 m)[t.size - 1 - j]'(by omega)) := by
    rw [← get_list]
    simp only [ht, List.getElem_map, List.getElem_reverse, hs]
  rw [e]
  have := dig_dg (by omega : 2 ≤ 10) m _ (List.getElem_mem (show t.size - 1 - j < (dg 10 m).length by omega))
  exact chr_toNat this.1 this.2

set_option maxHeartbeats 4000000 in
set_option maxRecDepth 100000 in
theorem digits_any {s : ByteArray} {z : Int} (hz : Is s z) (w : World) : Calls Tryz.prog 287 #[.string s] w (RetDg w (decide (z < 0)) z.natAbs) := by
  obtain ⟨t, hts, ht, h0, hc⟩ := behind hz
  have hs0 : (0 : Int) < (s.size : Int) := by omega
  clear hz
  generalize z.natAbs = m at *
  rcases Nat.eq_zero_or_pos m with rfl | hm
  · have h48 : (t.toList == [48]) = true := by
      rw [ByteArray.toList_eq, ht, dec_small (by omega)]; rfl
    have hd0 : Hid (dg 10 0 = []) := Lib.hid (dg_zero _)
    have hts1 : (0 : Int) ≤ (t.size : Int) - 1 := by
      have : t.data.toList.length = 1 := by rw [ht, dec_small (by omega)]; rfl
      rw [Array.length_toList] at this
      have h2 : t.size = 1 := this
      omega
    clear ht
    go_enter Tryz.func287, Tryz.ntmps287
    rcases hc with ⟨hn, h45, het, h1, hsz, hst⟩ | ⟨hn, h45, het⟩
    · rw [decide_eq_true hn]
      have HE := Lib.hid het
      clear hn het
      go_wp2
      rw [← HE.out]
      go_loopg [5, 6] 0 (fun kx s5 s6 wr => s5 = .slice none 0 0 ∧ s6 = .int .i64 ((t.size : Int) - 1) ∧ wr = w)
      case atStart => exact ⟨rfl, (by first | rfl | rw [hst.out]), rfl⟩
      case round =>
        obtain ⟨rfl, rfl, rfl⟩ := hrel
        go_wp2
        go_ret2
        exact ⟨_, rfl, by rw [hd0.out]; exact Rd.nil _, Below.refl _ _⟩
    · rw [decide_eq_false hn]
      subst het
      have hst : Hid (t.size = t.size) := Lib.hid rfl
      clear hn
      go_wp2
      go_loopg [5, 6] 0 (fun kx s5 s6 wr => s5 = .slice none 0 0 ∧ s6 = .int .i64 ((t.size : Int) - 1) ∧ wr = w)
      case atStart => exact ⟨rfl, (by first | rfl | rw [hst.out]), rfl⟩
      case round =>
        obtain ⟨rfl, rfl, rfl⟩ := hrel
        go_wp2
        go_ret2
        exact ⟨_, rfl, by rw [hd0.out]; exact Rd.nil _, Below.refl _ _⟩
  · have hda := Lib.hid (dec_at ht hm)
    have h48 : (t.toList == [48]) = false := by
      rw [ByteArray.toList_eq, ht, beq_eq_false_iff_ne]
      intro k
      have h1 : Lib.decDigits 0 = [48] := by rw [dec_small (by omega)]; rfl
      have := dval_dec m
      rw [k, ← h1, dval_dec] at this
      omega
    clear ht
    go_enter Tryz.func287, Tryz.ntmps287
    rcases hc with ⟨hn, h45, het, h1, hsz, hst⟩ | ⟨hn, h45, het⟩
    · rw [decide_eq_true hn]
      have HE := Lib.hid het
      clear hn het
      go_wp2
      rw [← HE.out]
      clear h45 hs0 h1 hsz
      go_loopg [5, 6] t.size (fun kx s5 s6 wr => ∃ (i : Int) (ys : List Int), s6 = .int .i64 i ∧ -1 ≤ i ∧ i < (t.size : Int) ∧ i + 1 ≤ kx ∧ Hid (ys = (dg 10 m).take ((t.size : Int) - 1 - i).toNat) ∧ Hid (ys.length = ((t.size : Int) - 1 - i).toNat) ∧ wr.ownsRow w.heap.size 3 1 s5 ys.length (ys.map (Value.int .i64)) ∧ Below w.heap.size w wr)
      case atStart =>
        have hst' := hst.out
        refine ⟨_, [], rfl, by omega, by omega, by omega, Lib.hid ?_, Lib.hid ?_, World.ownsRow_nil _ _ _ _, Below.refl _ _⟩
        · rw [Int.toNat_of_nonpos (by omega)]; rfl
        · rw [Int.toNat_of_nonpos (by omega)]; rfl
      case round =>
        obtain ⟨i, ys, rfl, hi0, hi1, hkx, hys, hyl, hown, hnx⟩ := hrel
        by_cases hg : 0 ≤ i
        · obtain ⟨j, rfl⟩ : ∃ j : Nat, i = j := ⟨i.toNat, by omega⟩
          have hj : j < t.size := by omega
          obtain ⟨hk, hx⟩ := hda.out.2 j hj
          have hdd := dig_dg (by omega : 2 ≤ 10) m _ (List.getElem_mem hk)
          have hnew : Hid (ys ++ [(dg 10 m)[t.size - 1 - j]] = (dg 10 m).take ((t.size : Int) - 1 - ((j : Int) - 1)).toNat) := Lib.hid (by
            rw [hys.out, show ((t.size : Int) - 1 - (j : Int)).toNat = t.size - 1 - j by omega, show ((t.size : Int) - 1 - ((j : Int) - 1)).toNat = t.size - 1 - j + 1 by omega, List.take_succ_eq_append_getElem hk])
          generalize (dg 10 m)[t.size - 1 - j] = d at *
          have hd1 : IntKind.u8.wrap (48 + d - 48) = d := by have := hdd.1; have := hdd.2; rw [show 48 + d - 48 = d by omega]; exact IntWalk.u8_in _ (by omega)
          obtain ⟨hd2, hd3⟩ := hdd
          have hw1 : IntKind.i64.wrap ((j : Int) - 1) = (j : Int) - 1 := IntWalk.i64_in _ (by omega)
          have HOWN := Lib.hid hown
          have hyn : ys.length ≤ 1000000 := by rw [hyl.out]; omega
          clear hown hk
          go_wp2_with (at_builtin; refine app_int rfl (.tmp 24) (.tmp 30) rfl w.heap.size _ ys d rfl HOWN.out rfl hyn hnx.size ?_; intro v' w3 hown3 hb3)
          go_roundg j
          case measure => omega
          case rel => exact ⟨_, ys ++ [d], by go_num, by omega, by omega, by omega, hnew, Lib.hid (by rw [List.length_append, hyl.out, List.length_singleton]; omega), hown3, hb3 _ _ hnx (Nat.le_refl _)⟩
        · obtain rfl : i = -1 := by omega
          have hyn : ys.length ≤ 1000000 := by rw [hyl.out]; omega
          have HR := Lib.hid (Rd.own hown hyn)
          have hfin : Hid (ys = dg 10 m) := Lib.hid (by
            rw [hys.out, show ((t.size : Int) - 1 - (-1)).toNat = (dg 10 m).length by rw [← hda.out.1]; omega, List.take_length])
          clear hown
          go_wp2
          go_ret2
          exact ⟨_, rfl, by rw [← hfin.out]; exact HR.out, hnx⟩
    · rw [decide_eq_false hn]
      subst het
      have hst : Hid (t.size = t.size) := Lib.hid rfl
      clear hn
      go_wp2
      clear hs0
      go_loopg [5, 6] t.size (fun kx s5 s6 wr => ∃ (i : Int) (ys : List Int), s6 = .int .i64 i ∧ -1 ≤ i ∧ i < (t.size : Int) ∧ i + 1 ≤ kx ∧ Hid (ys = (dg 10 m).take ((t.size : Int) - 1 - i).toNat) ∧ Hid (ys.length = ((t.size : Int) - 1 - i).toNat) ∧ wr.ownsRow w.heap.size 3 1 s5 ys.length (ys.map (Value.int .i64)) ∧ Below w.heap.size w wr)
      case atStart =>
        have hst' := hst.out
        refine ⟨_, [], rfl, by omega, by omega, by omega, Lib.hid ?_, Lib.hid ?_, World.ownsRow_nil _ _ _ _, Below.refl _ _⟩
        · rw [Int.toNat_of_nonpos (by omega)]; rfl
        · rw [Int.toNat_of_nonpos (by omega)]; rfl
      case round =>
        obtain ⟨i, ys, rfl, hi0, hi1, hkx, hys, hyl, hown, hnx⟩ := hrel
        by_cases hg : 0 ≤ i
        · obtain ⟨j, rfl⟩ : ∃ j : Nat, i = j := ⟨i.toNat, by omega⟩
          have hj : j < t.size := by omega
          obtain ⟨hk, hx⟩ := hda.out.2 j hj
          have hdd := dig_dg (by omega : 2 ≤ 10) m _ (List.getElem_mem hk)
          have hnew : Hid (ys ++ [(dg 10 m)[t.size - 1 - j]] = (dg 10 m).take ((t.size : Int) - 1 - ((j : Int) - 1)).toNat) := Lib.hid (by
            rw [hys.out, show ((t.size : Int) - 1 - (j : Int)).toNat = t.size - 1 - j by omega, show ((t.size : Int) - 1 - ((j : Int) - 1)).toNat = t.size - 1 - j + 1 by omega, List.take_succ_eq_append_getElem hk])
          generalize (dg 10 m)[t.size - 1 - j] = d at *
          have hd1 : IntKind.u8.wrap (48 + d - 48) = d := by have := hdd.1; have := hdd.2; rw [show 48 + d - 48 = d by omega]; exact IntWalk.u8_in _ (by omega)
          obtain ⟨hd2, hd3⟩ := hdd
          have hw1 : IntKind.i64.wrap ((j : Int) - 1) = (j : Int) - 1 := IntWalk.i64_in _ (by omega)
          have HOWN := Lib.hid hown
          have hyn : ys.length ≤ 1000000 := by rw [hyl.out]; omega
          clear hown hk
          go_wp2_with (at_builtin; refine app_int rfl (.tmp 24) (.tmp 30) rfl w.heap.size _ ys d rfl HOWN.out rfl hyn hnx.size ?_; intro v' w3 hown3 hb3)
          go_roundg j
          case measure => omega
          case rel => exact ⟨_, ys ++ [d], by go_num, by omega, by omega, by omega, hnew, Lib.hid (by rw [List.length_append, hyl.out, List.length_singleton]; omega), hown3, hb3 _ _ hnx (Nat.le_refl _)⟩
        · obtain rfl : i = -1 := by omega
          have hyn : ys.length ≤ 1000000 := by rw [hyl.out]; omega
          have HR := Lib.hid (Rd.own hown hyn)
          have hfin : Hid (ys = dg 10 m) := Lib.hid (by
            rw [hys.out, show ((t.size : Int) - 1 - (-1)).toNat = (dg 10 m).length by rw [← hda.out.1]; omega, List.take_length])
          clear hown
          go_wp2
          go_ret2
          exact ⟨_, rfl, by rw [← hfin.out]; exact HR.out, hnx⟩

end Go.Proofs.YtffndcjmabjhiaaGreatDoor

namespace Go.Proofs.YtffndcjmabjhiaaGreatDoor
open Go.RowKit Num
open Go.Shelf

theorem cmp10_len {a b : Nat} (h : (dg 10 a).length ≠ (dg 10 b).length) : Lib.compareInt a b = if (dg 10 a).length < (dg 10 b).length then -1 else 1 := by
  rcases Nat.lt_or_ge (dg 10 a).length (dg 10 b).length with h1 | h1
  · have := lt_of_len (by omega) h1
    unfold Lib.compareInt
    rw [if_pos h1, if_pos (by omega)]
  · have := lt_of_len (B := 10) (by omega) (show (dg 10 b).length < (dg 10 a).length by omega)
    unfold Lib.compareInt
    rw [if_neg (by omega), if_pos (by omega), if_neg (by omega)]
theorem cmp10_at {a b k : Nat} (hl : (dg 10 a).length = (dg 10 b).length) (hk : k < (dg 10 a).length)
    (hup : ∀ q, k < q → (dg 10 a)[q]?.getD 0 = (dg 10 b)[q]?.getD 0) (hne : (dg 10 a)[k]?.getD 0 ≠ (dg 10 b)[k]?.getD 0) :
    Lib.compareInt a b = if (dg 10 a)[k]?.getD 0 < (dg 10 b)[k]?.getD 0 then -1 else 1 := by
  have hd : (dg 10 a).drop (k + 1) = (dg 10 b).drop (k + 1) := by
    apply List.ext_getElem?
    intro i
    rw [List.getElem?_drop, List.getElem?_drop]
    have := hup (k + 1 + i) (by omega)
    rcases Nat.lt_or_ge (k + 1 + i) (dg 10 a).length with h1 | h1
    · rw [List.getElem?_eq_getElem h1, List.getElem?_eq_getElem (by omega)] at this ⊢
      simp only [Option.getD_some] at this
      rw [this]
    · rw [List.getElem?_eq_none h1, List.getElem?_eq_none (by omega)]
  have ea : (dg 10 a)[k]?.getD 0 = (dg 10 a)[k] := by rw [List.getElem?_eq_getElem hk]; rfl
  have eb : (dg 10 b)[k]?.getD 0 = (dg 10 b)[k] := by rw [List.getElem?_eq_getElem (by omega)]; rfl
  rw [ea, eb] at hne ⊢
  rcases Int.lt_or_le (dg 10 a)[k] (dg 10 b)[k] with h1 | h1
  · have := nv_lt_of (dig_dg (by omega) a) (dig_dg (by omega) b) k hk (by omega) hd h1
    rw [nv_dg (by omega), nv_dg (by omega)] at this
    unfold Lib.compareInt
    rw [if_pos h1, if_pos (by omega)]
  · have h2 : (dg 10 b)[k] < (dg 10 a)[k] := by omega
    have := nv_lt_of (dig_dg (by omega) b) (dig_dg (by omega) a) k (by omega) hk hd.symm h2
    rw [nv_dg (by omega), nv_dg (by omega)] at this
    unfold Lib.compareInt
    rw [if_neg (by omega), if_pos (by omega), if_neg (by omega)]
theorem cmp10_all {a b : Nat} (hl : (dg 10 a).length = (dg 10 b).length) (h : ∀ q : Nat, (dg 10 a)[q]?.getD 0 = (dg 10 b)[q]?.getD 0) : Lib.compareInt a b = 0 := by
  have e : dg 10 a = dg 10 b := by
    apply List.ext_getElem hl
    intro i h1 h2
    have := h i
    rwa [List.getElem?_eq_getElem h1, List.getElem?_eq_getElem h2] at this
  have := nv_inj (by omega) e
  subst this
  unfold Lib.compareInt
  rw [if_neg (by omega), if_neg (by omega)]

set_option maxHeartbeats 2000000 in
set_option maxRecDepth 100000 in
theorem rorder_any (a b : Nat) (v u : Value) (w : World) (hv : Rd w v (dg 10 a)) (hu : Rd w u (dg 10 b)) :
    Calls Tryz.prog 288 #[v, u] w (RetI w (Lib.compareInt a b)) := by
  obtain ⟨A, c, rfl, _, hma, hxa⟩ := hv
  obtain ⟨A', c', rfl, _, hmb, hxb⟩ := hu
  by_cases hl : (dg 10 a).length = (dg 10 b).length
  · have h1 : (((dg 10 a).length : Int) != ((dg 10 b).length : Int)) = false := by simp; omega
    have CA := Lib.hid (fun k => cmp10_at (k := k) hl)
    have CL := Lib.hid (cmp10_all hl)
    have HL := Lib.hid hl
    rcases Nat.eq_zero_or_pos (dg 10 a).length with h0 | h0
    · have hz := CL.out (fun q => by rw [List.getElem?_eq_none (by omega), List.getElem?_eq_none (by omega)])
      rw [hz, ← hl, h0]
      clear CA CL HL hl h1 hxa hxb hz hma hmb h0
      go_enter Tryz.func288, Tryz.ntmps288
      go_wp2
      go_loopg [5] 0 (fun kx s5 wr => s5 = .int .i64 (-1) ∧ wr = w)
      case atStart => exact ⟨rfl, rfl⟩
      case round =>
        obtain ⟨rfl, rfl⟩ := hrel
        go_wp2
        go_ret
        exact ⟨rfl, Below.refl _ _⟩
    · obtain ⟨b1, o1, rfl, hy1⟩ := hxa h0
      obtain ⟨b2, o2, rfl, hy2⟩ := hxb (by omega)
      have HY1 := Lib.hid hy1
      have HY2 := Lib.hid hy2
      clear hl hxa hxb hy1 hy2 hmb
      rw [← HL.out] at h1 ⊢
      generalize hla : (dg 10 a).length = la at *
      have HLA := Lib.hid hla
      clear hla
      go_enter Tryz.func288, Tryz.ntmps288
      go_wp2
      go_loopg [5] la (fun kx s5 wr => ∃ i : Int, s5 = .int .i64 i ∧ -1 ≤ i ∧ i < (la : Int) ∧ i + 1 ≤ kx ∧ Hid (∀ q : Nat, i < (q : Int) → (dg 10 a)[q]?.getD 0 = (dg 10 b)[q]?.getD 0) ∧ Below w.heap.size w wr)
      case atStart => exact ⟨_, rfl, by omega, by omega, by omega, Lib.hid (fun q hq => by have := HLA.out; have := HL.out; rw [List.getElem?_eq_none (by omega), List.getElem?_eq_none (by omega)]), Below.refl _ _⟩
      case round =>
        obtain ⟨i, rfl, hi0, hi1, hkx, hup, hnx⟩ := hrel
        by_cases hg : 0 ≤ i
        · obtain ⟨j, rfl⟩ : ∃ j : Nat, i = j := ⟨i.toNat, by omega⟩
          have hj : j < la := by omega
          have hc1 := (hnx.cell (cell_lt (HY1.out j hj))).trans (HY1.out j hj)
          have hc2 := (hnx.cell (cell_lt (HY2.out j (by have := HL.out; have := HLA.out; omega)))).trans (HY2.out j (by have := HL.out; have := HLA.out; omega))
          have CK := Lib.hid (CA.out j)
          have hnxt : Hid ((dg 10 a)[j]?.getD 0 = (dg 10 b)[j]?.getD 0 → ∀ q : Nat, (j : Int) - 1 < (q : Int) → (dg 10 a)[q]?.getD 0 = (dg 10 b)[q]?.getD 0) := Lib.hid (fun e q hq => by
            by_cases k : q = j
            · rw [k]; exact e
            · exact hup.out q (by omega))
          have hup' : Hid (∀ q : Nat, j < q → (dg 10 a)[q]?.getD 0 = (dg 10 b)[q]?.getD 0) := Lib.hid (fun q hq => hup.out q (by omega))
          clear hup
          generalize (dg 10 a)[j]?.getD 0 = x at *
          generalize (dg 10 b)[j]?.getD 0 = y at *
          have hw1 : IntKind.i64.wrap ((j : Int) - 1) = (j : Int) - 1 := IntWalk.i64_in _ (by omega)
          have hmixed : Tryz.prog.follows .mixedOrders = true := by kernel_rfl
          rcases Int.lt_trichotomy x y with hxy | hxy | hxy
          · have hb : (x != y) = true := by rw [bne_iff_ne]; omega
            have hr := Lib.hid (CK.out (by have := HLA.out; omega) hup'.out (by omega))
            rw [if_pos hxy] at hr
            clear hnxt
            go_wp2
            go_region
            all_goals go_wp2
            all_goals go_region
            all_goals go_wp2
            all_goals go_ret
            all_goals exact ⟨by rw [hr.out]; rfl, hnx.drew.drew⟩
          · subst hxy
            have hb : (x != x) = false := by simp
            have hn := Lib.hid (hnxt.out rfl)
            clear hnxt
            go_wp2
            go_region
            all_goals go_wp2
            go_roundg j
            case measure => omega
            case rel => exact ⟨_, by go_num, by omega, by omega, by omega, hn, hnx.drew⟩
          · have hb : (x != y) = true := by rw [bne_iff_ne]; omega
            have hxy' : ¬ x < y := by omega
            have hr := Lib.hid (CK.out (by have := HLA.out; omega) hup'.out (by omega))
            rw [if_neg hxy'] at hr
            clear hnxt
            go_wp2
            go_region
            all_goals go_wp2
            all_goals go_region
            all_goals go_wp2
            all_goals go_ret
            all_goals exact ⟨by rw [hr.out]; rfl, hnx.drew.drew⟩
        · obtain rfl : i = -1 := by omega
          have hz := Lib.hid (CL.out (fun q => hup.out q (by omega)))
          go_wp2
          go_ret
          exact ⟨by rw [hz.out]; rfl, hnx⟩
  · have h1 : (((dg 10 a).length : Int) != ((dg 10 b).length : Int)) = true := by simp; omega
    have hr := Lib.hid (cmp10_len hl)
    clear hxa hxb hl
    by_cases hlt : (dg 10 a).length < (dg 10 b).length
    · rw [if_pos hlt] at hr
      have hlt' : ((dg 10 a).length : Int) < ((dg 10 b).length : Int) := by omega
      generalize (dg 10 a).length = la at *
      generalize (dg 10 b).length = lb at *
      go_enter Tryz.func288, Tryz.ntmps288
      go_wp2
      go_ret
      exact ⟨by rw [hr.out]; rfl, Below.refl _ _⟩
    · rw [if_neg hlt] at hr
      have hlt' : ¬ ((dg 10 a).length : Int) < ((dg 10 b).length : Int) := by omega
      generalize (dg 10 a).length = la at *
      generalize (dg 10 b).length = lb at *
      go_enter Tryz.func288, Tryz.ntmps288
      go_wp2
      go_ret
      exact ⟨by rw [hr.out]; rfl, Below.refl _ _⟩

end Go.Proofs.YtffndcjmabjhiaaGreatDoor
