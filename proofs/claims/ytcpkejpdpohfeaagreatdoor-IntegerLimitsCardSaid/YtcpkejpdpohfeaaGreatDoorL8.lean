/- IntegerLimits: its walk. Condition: the tables of strconv; sizes of numbers. -/
import Derived.Test.YtcpkejpdpohfeaaGreatDoorL4
import Derived.Laws.IdiomStrings
namespace Go.Proofs.YtcpkejpdpohfeaaGreatDoor
open Go.RowKit Num
open Go.Shelf

/-! ### Nines -/
def nz (k : Nat) : ByteArray := ⟨(List.replicate k (57 : UInt8)).toArray⟩
theorem nz_size (k : Nat) : (nz k).size = k := by
  show (List.replicate k (57 : UInt8)).toArray.size = k
  simp
theorem nz_snoc (k : Nat) : nz k ++ ⟨#[57]⟩ = nz (k + 1) := by
  apply ByteArray.ext
  rw [ByteArray.data_append]
  unfold nz
  apply Array.toList_inj.1
  simp [List.replicate_succ']
theorem dval_nines : ∀ k, dval (List.replicate k 57) + 1 = 10 ^ k
  | 0 => rfl
  | k + 1 => by
    rw [List.replicate_succ, dval_cons, List.length_replicate, Nat.pow_succ]
    have := dval_nines k
    have e : ((57 : UInt8).toNat - 48) = 9 := rfl
    rw [e]
    omega
theorem nines_all (k : Nat) : (List.replicate k (57 : UInt8)).all isD = true := by
  rw [List.all_eq_true]
  intro x hx
  rw [List.eq_of_mem_replicate hx]
  decide
theorem is_of {l : List UInt8} {z : Int} (h : validL l = true) (hz : valL l = z) : Is ⟨l.toArray⟩ z := by
  unfold Is rdI
  rw [if_pos h, hz]
theorem is_nines {k : Nat} (h0 : 0 < k) (h : k ≤ 200) : Is (nz k) (((10 ^ k - 1 : Nat) : Int)) := by
  obtain ⟨j, rfl⟩ : ∃ j, k = j + 1 := ⟨k - 1, by omega⟩
  have hb : body (List.replicate (j + 1) (57 : UInt8)) = List.replicate (j + 1) 57 := by
    unfold body
    rw [List.replicate_succ]
    rfl
  refine is_of ?_ ?_
  · unfold validL
    rw [hb, nines_all]
    simp [List.replicate_succ]
    omega
  · unfold valL
    rw [hb, if_neg (by rw [List.replicate_succ]; simp)]
    have := dval_nines (j + 1)
    omega
theorem is_minus_nines {k : Nat} (h0 : 0 < k) (h : k ≤ 200) : Is (⟨#[45]⟩ ++ nz k) (-((10 ^ k - 1 : Nat) : Int)) := by
  have e : (⟨#[45]⟩ ++ nz k : ByteArray) = ⟨(45 :: List.replicate k (57 : UInt8)).toArray⟩ := by
    apply ByteArray.ext
    rw [ByteArray.data_append]
    unfold nz
    simp
  rw [e]
  have hb : body (45 :: List.replicate k (57 : UInt8)) = List.replicate k 57 := rfl
  obtain ⟨j, rfl⟩ : ∃ j, k = j + 1 := ⟨k - 1, by omega⟩
  refine is_of ?_ ?_
  · unfold validL
    rw [hb, nines_all]
    simp [List.replicate_succ]
    omega
  · unfold valL
    rw [hb, if_pos (show (45 :: List.replicate (j + 1) (57 : UInt8)).head? = some 45 from rfl)]
    have := dval_nines (j + 1)
    omega
theorem is_one_nines {k : Nat} (h : k < 200) : Is (⟨#[49]⟩ ++ nz k) (((2 * 10 ^ k - 1 : Nat) : Int)) := by
  have e : (⟨#[49]⟩ ++ nz k : ByteArray) = ⟨(49 :: List.replicate k (57 : UInt8)).toArray⟩ := by
    apply ByteArray.ext
    rw [ByteArray.data_append]
    unfold nz
    simp
  rw [e]
  have hb : body (49 :: List.replicate k (57 : UInt8)) = 49 :: List.replicate k 57 := rfl
  refine is_of ?_ ?_
  · unfold validL
    rw [hb, List.all_cons, nines_all]
    simp
    refine ⟨by omega, by decide⟩
  · unfold valL
    rw [hb, if_neg (by simp), dval_cons, List.length_replicate]
    have := dval_nines k
    have e : ((49 : UInt8).toNat - 48) = 1 := rfl
    rw [e]
    omega
theorem bad_nines : rdI (nz 200 ++ ⟨#[57]⟩) = none := by
  rw [nz_snoc]
  unfold rdI
  rw [if_neg]
  show ¬ validL (List.replicate 201 57) = true
  have hb : body (List.replicate 201 (57 : UInt8)) = List.replicate 201 57 := by
    unfold body
    rw [if_neg (by rw [List.replicate_succ]; simp)]
  unfold validL
  rw [hb, List.length_replicate, show decide (201 ≤ 200) = false from rfl]
  generalize List.replicate 201 (57 : UInt8) = l
  simp

set_option maxHeartbeats 1000000 in
theorem nines_any (n : Int) (k : Nat) (hn : n = k) (hk : k ≤ 200) (w : World) : Calls Tryz.prog 22 #[.int .i64 n] w (RetZ w (nz k)) := by
  subst hn
  go_enter Tryz.func22, Tryz.ntmps22
  go_wp2
  go_loopg [3, 4] k (fun kx s3 s4 wr => ∃ (i : Nat), s3 = .string (nz i) ∧ s4 = .int .i64 i ∧ i ≤ k ∧ k ≤ kx + i ∧ wr = w)
  case atStart => exact ⟨0, rfl, rfl, by omega, by omega, rfl⟩
  case round =>
    obtain ⟨i, rfl, rfl, hi, hkx, rfl⟩ := hrel
    have hsz : ¬ 9223372036854775807 < (nz i).size + (⟨#[57]⟩ : ByteArray).size := by rw [nz_size]; show ¬ _ < i + 1; omega
    by_cases hg : i < k
    · have hg' : (i : Int) < (k : Int) := by omega
      have hw1 : IntKind.i64.wrap ((i : Int) + 1) = (i : Int) + 1 := IntWalk.i64_in _ (by omega)
      go_wp2
      go_roundg (k - (i + 1))
      case measure => omega
      case rel => exact ⟨i + 1, by rw [← nz_snoc], by go_num, by omega, by omega, rfl⟩
    · have hg' : ¬ (i : Int) < (k : Int) := by omega
      obtain rfl : i = k := by omega
      go_wp2
      go_ret
      exact ⟨rfl, Below.refl _ _⟩

/-- The index that a number picks. -/
def pk (c : Int) : Nat := ((if c < 0 then -(c + 1) else c) % 200).toNat
theorem pick_any (c : Int) (h0 : -9223372036854775808 ≤ c) (h1 : c ≤ 9223372036854775807) (w : World) : Calls Tryz.prog 23 #[.int .i64 c, .int .i64 200] w (RetI w (pk c)) := by
  go_enter Tryz.func23, Tryz.ntmps23
  by_cases hc : c < 0
  · have hw1 : IntKind.i64.wrap (c + 1) = c + 1 := IntWalk.i64_in _ (by omega)
    have hw2 : IntKind.i64.wrap (-(c + 1)) = -(c + 1) := IntWalk.i64_in _ (by omega)
    go_wp2
    go_ret
    refine ⟨?_, Below.refl _ _⟩
    unfold pk
    show Ending.returned (.int .i64 (-(c + 1).tmod 200)) = _
    rw [if_pos hc, ← Int.neg_tmod, Int.tmod_eq_emod_of_nonneg (by omega), Int.toNat_of_nonneg (Int.emod_nonneg _ (by omega))]
  · go_wp2
    go_ret
    refine ⟨?_, Below.refl _ _⟩
    unfold pk
    show Ending.returned (.int .i64 (c % 200)) = _
    rw [if_neg (by omega), Int.toNat_of_nonneg (Int.emod_nonneg _ (by omega))]

end Go.Proofs.YtcpkejpdpohfeaaGreatDoor
