/- The walk of package integer's 'isValid'. Conditions: none. -/
import Derived.Test.YtcpkejpdpohfeaaGreatDoorI11
import Derived.Test.YtcpkejpdpohfeaaGreatDoorStr
namespace Go.Proofs.YtcpkejpdpohfeaaGreatDoor
open Go.RowKit Num
open Go.Shelf

theorem ba_iff (a b : ByteArray) : (a == b) = true ↔ a = b := by
  obtain ⟨x⟩ := a
  obtain ⟨y⟩ := b
  show ((x == y) = true) ↔ _
  rw [beq_iff_eq]
  exact ⟨fun h => by rw [h], fun h => by injection h⟩
theorem trimp_any (s : ByteArray) (w : World) : Calls Tryz.prog 73 #[.string s, .string ⟨#[45]⟩] w fun e w' => (∃ d : ByteArray, e = .returned (.string d) ∧ Hid (d = ⟨(body s.data.toList).toArray⟩)) ∧ w' = w := by
  refine (Tryz.strings_TrimPrefix s ⟨#[45]⟩ w).mono ?_
  rintro e w' ⟨rfl, rfl⟩
  exact ⟨⟨_, rfl, by rw [body_trim]; exact rfl⟩, rfl⟩
theorem trim_any (s : ByteArray) (hs : s.size ≤ 200) (w : World) : Calls Tryz.prog 74 #[.string s, .string ⟨#[48, 49, 50, 51, 52, 53, 54, 55, 56, 57]⟩] w fun e w' => (∃ d : ByteArray, e = .returned (.string d) ∧ d.toList.isEmpty = s.data.toList.all isD) ∧ Below w.heap.size w w' := by
  refine (Tryz.strings_Trim s ⟨#[48, 49, 50, 51, 52, 53, 54, 55, 56, 57]⟩ w (by omega) (by decide) (by
    intro j b hj
    have hm : b ∈ [(48 : UInt8), 49, 50, 51, 52, 53, 54, 55, 56, 57] := List.mem_of_getElem? hj
    simp only [List.mem_cons, List.not_mem_nil, or_false] at hm
    rcases hm with rfl | rfl | rfl | rfl | rfl | rfl | rfl | rfl | rfl | rfl <;> decide)).mono ?_
  rintro e w' ⟨rfl, hb⟩
  refine ⟨⟨_, rfl, ?_⟩, hb⟩
  have h := trim_digits s.data.toList
  rw [Bool.eq_iff_iff, List.isEmpty_iff, ← h, ByteArray.toList_mk]

theorem head_ne (d : ByteArray) (h : 0 < d.size) : ((((d[0]'h).toNat : Nat) : Int) != 48) = (d.data.toList.head? != some 48) := by
  obtain ⟨⟨l⟩⟩ := d
  cases l with
  | nil => simp [ByteArray.size] at h
  | cons c r =>
    show (((c.toNat : Nat) : Int) != 48) = (some c != some 48)
    rw [Bool.eq_iff_iff, bne_iff_ne, bne_iff_ne]
    constructor
    · intro h1 e
      cases e
      exact h1 rfl
    · intro h1 e
      have : c.toNat = (48 : UInt8).toNat := by simpa using (show c.toNat = 48 by omega)
      exact h1 (by rw [UInt8.toNat_inj.1 this])

set_option maxHeartbeats 1000000 in
theorem valid_any (s : ByteArray) (w : World) : Calls Tryz.prog 47 #[.string s] w fun e w' => e = .returned (.bool (validL s.data.toList)) ∧ Below w.heap.size w w' := by
  go_enter Tryz.func47, Tryz.ntmps47
  obtain ⟨ds, hds⟩ : ∃ d : ByteArray, d = ⟨(body s.data.toList).toArray⟩ := ⟨_, rfl⟩
  have hv : validL s.data.toList = ((!(body s.data.toList).isEmpty) && decide ((body s.data.toList).length ≤ 200) && (body s.data.toList).all isD && (s.data.toList == [48] || (body s.data.toList).head? != some 48)) := rfl
  have hbd : body s.data.toList = ds.data.toList := by rw [hds]
  have hsz : ds.size = ds.data.toList.length := rfl
  have TP := Lib.hid (trimp_any s)
  rw [hv, hbd]
  have HDS := Lib.hid hds
  have HSZ := Lib.hid hsz
  clear hv hbd hds hsz
  by_cases h0 : ds.data.toList = []
  · rw [h0]
    have he : ds = ⟨#[]⟩ := ByteArray.ext (by rw [← Array.toList_inj]; exact h0)
    clear h0
    subst he
    go_wp2_with (go_at_call 73; (with_reducible refine (TP.out _).mono ?_); rintro e w1 ⟨⟨d, rfl, hd⟩, rfl⟩; obtain rfl : d = ⟨#[]⟩ := hd.out.trans HDS.out.symm; clear hd)
    go_ret
    exact ⟨rfl, Below.refl _ _⟩
  · have hne : ds.toList.isEmpty = false := by rw [ByteArray.toList_eq]; simpa using h0
    have he0 : ds.data.toList.isEmpty = false := by simpa using h0
    rw [he0]
    have hpos : 0 < ds.size := by rw [HSZ.out]; exact List.length_pos_iff.2 h0
    by_cases h200 : 200 < ds.size
    · have hc : (200 : Int) < (ds.size : Int) := by omega
      have e : ((!false) && decide (ds.data.toList.length ≤ 200) && ds.data.toList.all isD && (s.data.toList == [48] || ds.data.toList.head? != some 48)) = false := by
        have h : decide (ds.data.toList.length ≤ 200) = false := by rw [← HSZ.out]; simpa using h200
        rw [h]; rfl
      rw [e]
      clear e h0 h200 he0
      go_wp2_with (go_at_call 73; (with_reducible refine (TP.out _).mono ?_); rintro e w1 ⟨⟨d, rfl, hd⟩, rfl⟩; obtain rfl : d = ds := hd.out.trans HDS.out.symm; clear hd)
      go_ret
      exact ⟨rfl, Below.refl _ _⟩
    · have hc : ¬ (200 : Int) < (ds.size : Int) := by omega
      have h : decide (ds.data.toList.length ≤ 200) = true := by rw [← HSZ.out]; simpa using h200
      rw [h, Bool.not_false, Bool.true_and, Bool.true_and]
      have TR := Lib.hid (trim_any ds (by omega) w)
      generalize ds.data.toList.all isD = b at TR ⊢
      clear h h0 he0 h200
      cases b with
      | false =>
        rw [Bool.false_and]
        go_wp2_with (first | (go_at_call 73; (with_reducible refine (TP.out _).mono ?_); rintro e w1 ⟨⟨d, rfl, hd⟩, rfl⟩; obtain rfl : d = ds := hd.out.trans HDS.out.symm; clear hd) | (go_at_call 74; (with_reducible refine TR.out.mono ?_); rintro e w1 ⟨⟨t, rfl, ht⟩, hb1⟩))
        go_ret
        exact ⟨rfl, hb1⟩
      | true =>
        rw [Bool.true_and]
        have hs0 : (s.data.toList == [48]) = (s.toList == [48]) := by rw [ByteArray.toList_eq]
        rw [hs0]
        clear hs0
        cases h48 : (s.toList == [48]) with
        | true =>
          rw [Bool.true_or]
          go_wp2_with (first | (go_at_call 73; (with_reducible refine (TP.out _).mono ?_); rintro e w1 ⟨⟨d, rfl, hd⟩, rfl⟩; obtain rfl : d = ds := hd.out.trans HDS.out.symm; clear hd) | (go_at_call 74; (with_reducible refine TR.out.mono ?_); rintro e w1 ⟨⟨t, rfl, ht⟩, hb1⟩))
          go_ret
          exact ⟨rfl, hb1⟩
        | false =>
          rw [Bool.false_or]
          go_wp2_with (first | (go_at_call 73; (with_reducible refine (TP.out _).mono ?_); rintro e w1 ⟨⟨d, rfl, hd⟩, rfl⟩; obtain rfl : d = ds := hd.out.trans HDS.out.symm; clear hd) | (go_at_call 74; (with_reducible refine TR.out.mono ?_); rintro e w1 ⟨⟨t, rfl, ht⟩, hb1⟩))
          go_ret
          exact ⟨congrArg (fun b => Ending.returned (.bool b)) (head_ne d hpos), hb1⟩

end Go.Proofs.YtcpkejpdpohfeaaGreatDoor
