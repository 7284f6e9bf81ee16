/- Texts of fractions: printed and parsed again. No conditions. -/
import Derived.Test.YtnioinccflmdjaaGreatDoorW16
namespace Go.Proofs.YtnioinccflmdjaaGreatDoor
open Go.RowKit Num
open Go.Shelf

theorem is_nosl {x : ByteArray} {n : Int} (h : Is x n) : NoSl x x.size := by
  intro j hj _
  have hv : validL x.data.toList = true := (rd_valid h).1
  unfold validL at hv
  simp only [Bool.and_eq_true] at hv
  have hb := hv.1.2
  rw [List.all_eq_true] at hb
  have hg := get_byte hj
  have hm : (x[j]'hj) ∈ x.data.toList := List.mem_of_getElem? hg
  unfold body at hb
  by_cases c : x.data.toList.head? = some 45
  · rw [if_pos c] at hb
    cases hl : x.data.toList with
    | nil => rw [hl] at hm; cases hm
    | cons a l =>
      rw [hl] at hb hm c
      simp at c
      subst c
      rcases List.mem_cons.1 hm with e | e
      · rw [e]; decide
      · have := hb _ e
        unfold isD at this
        simp at this
        omega
  · rw [if_neg c] at hb
    have := hb _ hm
    unfold isD at this
    simp at this
    omega
theorem slash_size (x y : ByteArray) : (slash x y).size = x.size + (y.size + 1) := by
  show (x.data.toList ++ 47 :: y.data.toList).toArray.size = _
  simp
theorem slash_pair {x y : ByteArray} (hn : NoSl x x.size) : pairT (slash x y) = (x, y) := by
  have hsz := slash_size x y
  have hi : x.size < (slash x y).size := by omega
  have hget : ∀ j (h : j < (slash x y).size) (hj : j < x.size), ((slash x y)[j]'h) = x[j]'hj := fun j h hj => by
    have e1 := get_byte h
    have e2 := get_byte hj
    have e3 : (slash x y).data.toList = x.data.toList ++ 47 :: y.data.toList := rfl
    rw [e3, List.getElem?_append_left (by simpa using hj), e2] at e1
    exact (Option.some.inj e1).symm
  have hs : ((slash x y)[x.size]'hi).toNat = 47 := by
    have e1 := get_byte hi
    have e3 : (slash x y).data.toList = x.data.toList ++ 47 :: y.data.toList := rfl
    rw [e3, List.getElem?_append_right (by simp)] at e1
    simp at e1
    rw [← e1]; rfl
  rw [cut_at hi (fun j h hj => by rw [hget j h hj]; exact hn j hj hj) hs]
  have e3 : (slash x y).data = (x.data.toList ++ 47 :: y.data.toList).toArray := rfl
  congr 1
  · apply ByteArray.ext
    rw [ByteArray.data_extract, e3]
    apply Array.toList_inj.1
    rw [Array.toList_extract]
    simp
  · apply ByteArray.ext
    rw [ByteArray.data_extract, e3, hsz]
    apply Array.toList_inj.1
    rw [Array.toList_extract]
    have e4 : List.drop (x.size + 1) (x.data.toList ++ 47 :: y.data.toList) = y.data.toList := by
      have e5 : x.data.toList ++ 47 :: y.data.toList = (x.data.toList ++ [47]) ++ y.data.toList := by simp
      rw [e5, List.drop_left' (by simp)]
    show List.take _ (List.drop (x.size + 1) (x.data.toList ++ 47 :: y.data.toList)) = _
    rw [e4]
    exact List.take_of_length_le (by simp; omega)
/-- The text of a fraction is parsed to the fraction. -/
theorem par_pr {x y : ByteArray} (h : okR x y = true) : parT (prT x y) = some (x, y) := by
  obtain ⟨q, hq⟩ := okR_ex h
  have hp : pairT (prT x y) = (x, y) := by
    unfold prT
    rw [h, if_pos rfl]
    by_cases h1 : y = ⟨#[49]⟩
    · rw [if_pos h1, cut_no (is_nosl hq.1), h1]
    · rw [if_neg h1]; exact slash_pair (is_nosl hq.1)
  unfold parT
  rw [hp, if_pos ⟨rfl, pr_ne h⟩]
theorem pr_bad {x y : ByteArray} (h : okR x y = false) : prT x y = ⟨#[]⟩ := by unfold prT; rw [h]; rfl
theorem par_empty : parT ⟨#[]⟩ = none := by
  unfold parT
  exact if_neg (fun c => c.2 rfl)
theorem par_print {t : ByteArray} {p : ByteArray × ByteArray} (h : parT t = some p) : prT p.1 p.2 = t := by
  unfold parT at h
  split at h
  · rename_i c; cases h; exact c.1
  · cases h

end Go.Proofs.YtnioinccflmdjaaGreatDoor
