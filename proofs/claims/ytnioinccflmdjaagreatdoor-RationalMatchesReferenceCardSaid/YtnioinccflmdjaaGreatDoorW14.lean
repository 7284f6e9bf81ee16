/- cut of package workpiecelaw04; workpieceref04: Print, Parse. Conditions: sizes. -/
import Derived.Test.YtnioinccflmdjaaGreatDoorW9
namespace Go.Proofs.YtnioinccflmdjaaGreatDoor
open Go.RowKit Num
open Go.Shelf

/-! ### The first slash -/
theorem index_at : ∀ (l : List UInt8) (i : Nat), l[i]? = some 47 → (∀ j, j < i → l[j]? ≠ some 47) → Lib.indexByte l 47 = (i : Int)
  | [], i, h, _ => by simp at h
  | c :: l, 0, h, _ => by
    simp at h; subst h
    simp [Lib.indexByte]
  | c :: l, i + 1, h, hn => by
    have h0 : c ≠ 47 := fun e => hn 0 (by omega) (by simp [e])
    have ih := index_at l i (by simpa using h) (fun j hj => by have := hn (j + 1) (by omega); simpa using this)
    unfold Lib.indexByte
    simp [h0, ih]
theorem index_no : ∀ (l : List UInt8), (∀ j, j < l.length → l[j]? ≠ some 47) → Lib.indexByte l 47 = -1
  | [], _ => rfl
  | c :: l, hn => by
    have h0 : c ≠ 47 := fun e => hn 0 (by simp) (by simp [e])
    have ih := index_no l (fun j hj => by have := hn (j + 1) (by simp; omega); simpa using this)
    unfold Lib.indexByte
    simp [h0, ih]
theorem get_byte {s : ByteArray} {j : Nat} (h : j < s.size) : s.data.toList[j]? = some (s[j]'h) := by
  rw [List.getElem?_eq_getElem (by simpa using h)]
  rfl
/-- No slash among the first i bytes. -/
def NoSl (s : ByteArray) (i : Nat) : Prop := ∀ j (h : j < s.size), j < i → (s[j]'h).toNat ≠ 47
theorem nosl_succ {s : ByteArray} {i : Nat} (h : i < s.size) (hn : NoSl s i) (h2 : (s[i]'h).toNat ≠ 47) : NoSl s (i + 1) := by
  intro j hj hji
  by_cases e : j = i
  · subst e; exact h2
  · exact hn j hj (by omega)
theorem cut_at {s : ByteArray} {i : Nat} (h : i < s.size) (hn : NoSl s i) (h2 : (s[i]'h).toNat = 47) : pairT s = (s.extract 0 i, s.extract (i + 1) s.size) := by
  have e : Lib.indexByte s.data.toList 47 = (i : Int) := by
    refine index_at _ i ?_ ?_
    · rw [get_byte h]; congr 1; exact UInt8.toNat_inj.1 h2
    · intro j hj hc
      rw [get_byte (show j < s.size by omega)] at hc
      exact hn j (by omega) hj (by rw [Option.some.inj hc]; rfl)
  have c : cutT s = (s.extract 0 i, s.extract (i + 1) s.size, true) := by
    unfold cutT
    rw [e, if_neg (show ¬ (i : Int) = -1 by omega), Int.toNat_natCast]
  unfold pairT
  rw [c]
  rfl
theorem cut_no {s : ByteArray} (hn : NoSl s s.size) : pairT s = (s, ⟨#[49]⟩) := by
  have e : Lib.indexByte s.data.toList 47 = -1 := by
    refine index_no _ (fun j hj hc => ?_)
    have hj' : j < s.size := by simpa using hj
    rw [get_byte hj'] at hc
    exact hn j hj' hj' (by rw [Option.some.inj hc]; rfl)
  unfold pairT cutT
  rw [if_pos e]
  rfl

/-! ### Print -/
theorem slash_app (x y : ByteArray) : x ++ ⟨#[47]⟩ ++ y = slash x y := by
  apply ByteArray.ext
  unfold slash
  rw [ByteArray.data_append, ByteArray.data_append]
  simp
set_option maxHeartbeats 2000000 in
set_option maxRecDepth 100000 in
theorem tprint_any (x y : ByteArray) (hxs : x.size ≤ 9223372036854775807) (hys : y.size ≤ 9223372036854775807) (w : World) : Calls Tryz.prog 16 #[.agg #[.string x, .string y]] w (RetS1 w (prT x y)) := by
  have V1 := Lib.hid (fun w => tvalid_any x y hxs hys w)
  have hB := below1 w (.cells #[.string x, .string y] 23)
  have rb := Blk.new w 23 [.string x, .string y]
  cases h : okR x y with
  | false =>
    rw [show prT x y = ⟨#[]⟩ by unfold prT; rw [h]; rfl]
    rw [h] at V1
    clear h hxs hys
    go_enter Tryz.func16, Tryz.ntmps16
    go_wp2_with (go_at_call 40; (with_reducible refine (V1.out _).mono ?_); rintro e w1 ⟨rfl, hb⟩; replace hB := below_up hB hb)
    go_ret
    exact ⟨rfl, hB⟩
  | true =>
    obtain ⟨q, hq⟩ := okR_ex h
    rw [h] at V1
    have hy := hq.2
    have sx := hq.1.size
    have sy := hy.size
    have hc1 : ¬ 9223372036854775807 < x.size + 1 := by omega
    have hc2 : ¬ 9223372036854775807 < x.size + 1 + y.size := by omega
    have hc3 : (x ++ (⟨#[47]⟩ : ByteArray)).size ≤ 1000 := by rw [snoc_size]; omega
    by_cases h1 : y = ⟨#[49]⟩
    · rw [show prT x y = x by unfold prT; rw [h, if_pos h1]; rfl]
      subst h1
      clear h hq hy hxs hys sx sy
      go_enter Tryz.func16, Tryz.ntmps16
      go_wp2_with (go_at_call 40; (with_reducible refine (V1.out _).mono ?_); rintro e w1 ⟨rfl, hb⟩; replace hB := below_up hB hb; replace rb := rb.below hb; have c0 := rb.cell 0 (v := .string x) rfl; have c1 := rb.cell 1 (v := .string ⟨#[49]⟩) rfl; clear hb)
      go_ret
      exact ⟨rfl, hB⟩
    · rw [show prT x y = slash x y by unfold prT; rw [h, if_neg h1]; rfl]
      have hne : (y.toList == [49]) = false := by
        have k := ne_str h1
        rwa [ByteArray.toList_eq (⟨#[49]⟩ : ByteArray)] at k
      have SA := Lib.hid (slash_app x y)
      clear h hq hy hxs hys sx sy h1
      go_enter Tryz.func16, Tryz.ntmps16
      go_wp2_with (go_at_call 40; (with_reducible refine (V1.out _).mono ?_); rintro e w1 ⟨rfl, hb⟩; replace hB := below_up hB hb; replace rb := rb.below hb; have c0 := rb.cell 0 (v := .string x) rfl; have c1 := rb.cell 1 (v := .string y) rfl; clear hb)
      go_ret
      exact ⟨by rw [← SA.out]; rfl, hB⟩

end Go.Proofs.YtnioinccflmdjaaGreatDoor
