/- Same, zero, pick of workpieceref07 and same of workpiecelaw07: lists that are equal. Conditions: none. trimmed of workpieceref07. Conditions: none. of and ints of workpiecelaw07. Conditions: sizes. -/
import Derived.Test.YtffndcjmabjhiaaGreatDoorM1
import Derived.Test.YtffndcjmabjhiaaGreatDoorM5
import Derived.Test.YtffndcjmabjhiaaGreatDoorK16
namespace Go.Proofs.YtffndcjmabjhiaaGreatDoor
open Go.RowKit Num
open Go.Shelf

theorem rzero_any (w : World) : Calls Tryz.prog 167 #[] w (RetR w 0) := by
  go_enter Tryz.func167, Tryz.ntmps167
  go_wp2
  have h0 : numT (some 0) = ⟨#[48]⟩ := by kernel_rfl
  have h1 : denT (some 0) = ⟨#[49]⟩ := by kernel_rfl
  refine bodyPost_ret (v := .agg #[.string ⟨#[48]⟩, .string ⟨#[49]⟩]) (by simp [results, Tryz.results167, go_sem]) rfl ⟨by rw [h0, h1], ?_⟩
  exact below1 _ _
set_option maxHeartbeats 2000000 in
set_option maxRecDepth 100000 in
theorem same_any {v u : Value} {l : List Rat} (w : World) (hv : Pv w v l) (hu : Pv w u l) : Calls Tryz.prog 145 #[v, u] w (RetB w true) := by
  have hm1 := hv.small
  obtain ⟨A, c, rfl, -, -, hx⟩ := hv
  obtain ⟨A', c', rfl, -, -, hx'⟩ := hu
  have HX := Lib.hid hx
  have HX' := Lib.hid hx'
  clear hx hx'
  have hB : Below w.heap.size w w := Below.refl _ _
  have hmixed : Tryz.prog.follows .mixedOrders = true := by kernel_rfl
  go_enter Tryz.func145, Tryz.ntmps145
  go_wp2
  go_loopg [5] l.length (fun k s5 wr => ∃ i : Nat, s5 = .int .i64 i ∧ i ≤ l.length ∧ l.length ≤ k + i ∧ Below w.heap.size w wr)
  case atStart => exact ⟨0, rfl, by omega, by omega, hB⟩
  case round =>
    clear hB
    obtain ⟨i, rfl, hi, hk, hB⟩ := hrel
    by_cases hg : i < l.length
    · have hgi : (i : Int) < l.length := by omega
      obtain ⟨b, o, rfl, hy⟩ := HX.out (by omega)
      obtain ⟨b', o', rfl, hy'⟩ := HX'.out (by omega)
      have hD := hB.drew
      have k0 := (hD.cell (cell_lt (hy i hg).1)).trans (hy i hg).1
      have k1 := (hD.cell (cell_lt (hy i hg).2)).trans (hy i hg).2
      have k2 := (hD.cell (cell_lt (hy' i hg).1)).trans (hy' i hg).1
      have k3 := (hD.cell (cell_lt (hy' i hg).2)).trans (hy' i hg).2
      clear hy hy'
      generalize cf l i = p at *
      go_wp2_with fail
      go_region
      all_goals go_wp2
      all_goals go_roundg (l.length - (i + 1))
      all_goals first | omega | exact ⟨i + 1, by go_num, by omega, by omega, hD⟩ | exact ⟨i + 1, by go_num, by omega, by omega, hD.drew⟩
    · obtain rfl : i = l.length := by omega
      go_wp2
      go_ret
      exact ⟨rfl, hB⟩
set_option maxRecDepth 100000 in
theorem lsame_any {v u : Value} {l : List Rat} (w : World) (hv : Pv w v l) (hu : Pv w u l) : Calls Tryz.prog 46 #[v, u] w (RetB w true) := by
  have C := Lib.hid (same_any w hv hu)
  obtain ⟨A, c, rfl, -, -, -⟩ := hv
  obtain ⟨A', c', rfl, -, -, -⟩ := hu
  go_enter Tryz.func46, Tryz.ntmps46
  go_wp2_with (go_at_call 145; (with_reducible refine C.out.mono ?_); rintro e w1 ⟨rfl, hb⟩)
  go_ret
  exact ⟨rfl, hb⟩
set_option maxRecDepth 100000 in
theorem rpick_any (c n : Int) (hc0 : -9223372036854775808 ≤ c) (hc1 : c ≤ 9223372036854775807) (hn : 0 < n) (hn1 : n ≤ 9223372036854775807) (w : World) :
    Calls Tryz.prog 66 #[.int .i64 c, .int .i64 n] w (RetPick w n) := by
  by_cases h : c < 0
  · go_enter Tryz.func66, Tryz.ntmps66
    go_wp2
    go_ret
    exact ⟨-((c + 1).tmod n), by rw [← Int.neg_tmod, Int.tmod_eq_emod_of_nonneg (by omega)]; exact Int.emod_nonneg _ (by omega), by rw [← Int.neg_tmod, Int.tmod_eq_emod_of_nonneg (by omega)]; exact Int.emod_lt_of_pos _ hn, rfl, rfl⟩
  · have h' : 0 ≤ c := by omega
    go_enter Tryz.func66, Tryz.ntmps66
    go_wp2
    go_ret
    exact ⟨c % n, Int.emod_nonneg _ (by omega), Int.emod_lt_of_pos _ hn, rfl, rfl⟩

end Go.Proofs.YtffndcjmabjhiaaGreatDoor

namespace Go.Proofs.YtffndcjmabjhiaaGreatDoor
open Go.RowKit Num
open Go.Shelf

theorem num_zero {q : Rat} (hq : fitQ q) (h : q ≠ 0) : ((numT (some q)).toList == (numT (some 0)).toList) = false := by
  exact (fr_fit hq).1.differ (fr_fit fit_zero).1 (fun e => h (Rat.num_eq_zero.1 e))
theorem Pv.take {w : World} {A : Option Addr} {c : Nat} {l : List Rat} (h : Pv w (.slice A l.length c) l) (n : Nat) (hn : n ≤ l.length) : Pv w (.slice A n c) (l.take n) := by
  obtain ⟨A', c', hv, hc, hm, hx⟩ := h
  obtain ⟨rfl, rfl⟩ : A = A' ∧ c = c' := by simp at hv; exact hv
  have hl : (l.take n).length = n := by rw [List.length_take]; omega
  have hcf : ∀ i, cf (l.take n) i = if i < n then cf l i else 0 := fun i => by
    unfold cf
    rw [List.getD_eq_getElem?_getD, List.getD_eq_getElem?_getD]
    by_cases h : i < n
    · rw [List.getElem?_take_of_lt h, if_pos h]
    · rw [if_neg h, List.getElem?_eq_none (by rw [hl]; omega)]; rfl
  have h1 := hc.1
  have h2 := hm.1
  refine ⟨A, c, by rw [hl], ⟨by omega, hc.2⟩, ⟨by omega, fun i => ?_⟩, fun h0 => ?_⟩
  · rw [hcf]; split
    · exact hm.2 i
    · exact fit_zero
  · obtain ⟨b, o, hA, hy⟩ := hx (by omega)
    exact ⟨b, o, hA, fun j hj => by rw [hcf, if_pos (by omega)]; exact hy j (by omega)⟩
set_option maxHeartbeats 2000000 in
set_option maxRecDepth 100000 in
theorem rtrimmed_any {v : Value} {l : List Rat} (w : World) (hv : Pv w v l) : Calls Tryz.prog 67 #[v] w (RetL7 w (trimP l)) := by
  have HV0 := Lib.hid hv
  have HF := Lib.hid hv.fit
  have hm1 := hv.small
  have Z := Lib.hid (fun w => rzero_any w)
  obtain ⟨A, c, rfl, hc, -, hx⟩ := hv
  have HV := HV0
  have hc1 := hc.1
  have HX := Lib.hid hx
  clear hx hc HV0
  have hB : Below w.heap.size w w := Below.refl _ _
  have hmixed : Tryz.prog.follows .mixedOrders = true := by kernel_rfl
  go_enter Tryz.func67, Tryz.ntmps67
  go_wp2_with fail
  go_loopg [0] l.length (fun k s0 wr => ∃ n : Nat, s0 = .slice A n c ∧ n ≤ l.length ∧ n ≤ k ∧ trimP (l.take n) = trimP l ∧ Below w.heap.size w wr)
  case atStart => exact ⟨l.length, rfl, by omega, by omega, by rw [List.take_length], hB⟩
  case round =>
    clear hB
    obtain ⟨n, rfl, hi, hk, ht, hB⟩ := hrel
    have hT := Lib.hid ht
    clear ht
    have hfin : ∀ (h : trimP (l.take n) = l.take n), l.take n = trimP l := fun h => h.symm.trans hT.out
    cases n with
    | zero =>
      have h2 := hfin rfl
      go_wp2_with fail
      go_region
      all_goals go_wp2
      all_goals go_ret
      all_goals first
        | exact ⟨_, rfl, h2 ▸ (HV.out.take 0 (Nat.zero_le _)).below hB.drew, hB.drew⟩
        | exact ⟨_, rfl, h2 ▸ (HV.out.take 0 (Nat.zero_le _)).below hB, hB⟩
    | succ j =>
      obtain ⟨b, o, rfl, hy⟩ := HX.out (by omega)
      have hD := hB.drew
      have k0 := (hD.cell (cell_lt (hy j (by omega)).1)).trans (hy j (by omega)).1
      have k1 := (hD.cell (cell_lt (hy j (by omega)).2)).trans (hy j (by omega)).2
      have HT0 := Lib.hid (fun (h : cf l j = 0) => (trim_take_zero (l := l) (n := j) (by omega) h).symm.trans hT.out)
      have HT1 := Lib.hid (fun (h : cf l j ≠ 0) => hfin (trim_take_lead (l := l) (n := j) (by omega) h))
      have hw : IntKind.i64.wrap (((j + 1 : Nat) : Int) - 1) = j := by rw [IntWalk.i64_in _ (by omega)]; omega
      have hj1 : (j : Int) < ((j + 1 : Nat) : Int) := by omega
      have hj2 : (j : Int) ≤ ((j + 1 : Nat) : Int) := by omega
      have hjz : (0 : Int) ≤ (j : Int) := by omega
      have hjc : (j : Int) ≤ c := by omega
      have hjc2 : (((j + 1 : Nat) : Int)) ≤ c := by omega
      have hj0 : (0 : Int) < ((j + 1 : Nat) : Int) := by omega
      obtain ⟨n, hn⟩ : ∃ n, n = j + 1 := ⟨_, rfl⟩
      rw [← hn] at hw hj1 hj2 hj0 hjc2 HT1 hi hk ⊢
      have HN := Lib.hid hn
      have HI := Lib.hid (show n ≤ l.length from hi)
      have HK := Lib.hid (show n ≤ gk from hk)
      have hdec : decide (0 < n) = true := decide_eq_true (by omega)
      clear hn hT hfin hy hi hk
      by_cases hp0 : cf l j = 0
      · have hT2 := Lib.hid (HT0.out hp0)
        clear HT0 HT1
        rw [hp0] at k0 k1
        go_wp2_with fail
        go_region_held3 (fun w' => w'.cell? ⟨b, o + j * 2, none⟩ = some (.string (numT (some 0))) ∧ w'.cell? ⟨b, o + j * 2 + 1, none⟩ = some (.string (denT (some 0)))) (go_keep) (first
          | (go_at_call 167; (with_reducible refine (Z.out _).mono ?_); rintro e wN ⟨rfl, hb⟩; have hD := below_up hD hb; have k0 := (hb.cell (cell_lt k0)).trans k0; have k1 := (hb.cell (cell_lt k1)).trans k1))
        all_goals go_wp2
        all_goals go_roundg j
        all_goals first | (have := HN.out; have := HK.out; omega) | exact ⟨j, by go_num, by have := HN.out; have := HI.out; omega, by have := HN.out; have := HK.out; omega, hT2.out, hD⟩
      · have h2 := HT1.out hp0
        have hne := num_zero (HF.out j) hp0
        clear HT0 HT1
        generalize cf l j = q at *
        go_wp2_with fail
        go_region_held3 (fun w' => w'.cell? ⟨b, o + j * 2, none⟩ = some (.string (numT (some q))) ∧ w'.cell? ⟨b, o + j * 2 + 1, none⟩ = some (.string (denT (some q)))) (go_keep) (first
          | (go_at_call 167; (with_reducible refine (Z.out _).mono ?_); rintro e wN ⟨rfl, hb⟩; have hD := below_up hD hb; have k0 := (hb.cell (cell_lt k0)).trans k0; have k1 := (hb.cell (cell_lt k1)).trans k1))
        all_goals go_wp2
        all_goals go_ret
        all_goals exact ⟨_, rfl, h2 ▸ (HV.out.take n HI.out).below hD, hD⟩

end Go.Proofs.YtffndcjmabjhiaaGreatDoor

namespace Go.Proofs.YtffndcjmabjhiaaGreatDoor
open Go.RowKit Num
open Go.Shelf

set_option maxHeartbeats 1000000 in
set_option maxRecDepth 100000 in
theorem of_any (n d : Int) (hn0 : -9223372036854775808 ≤ n) (hn1 : n ≤ 9223372036854775807) (hd0 : -9223372036854775808 ≤ d) (hd1 : d ≤ 9223372036854775807) (h0 : d ≠ 0) (w : World) :
    Calls Tryz.prog 14 #[.int .i64 n, .int .i64 d] w (RetR w (Rat.divInt n d)) := by
  have C := Lib.hid (fun w => tof_some n d hn0 hn1 hd0 hd1 h0 w)
  clear hn0 hn1 hd0 hd1 h0
  generalize Rat.divInt n d = r at *
  have Z := Blk.new w 29 [.string ⟨#[]⟩, .string ⟨#[]⟩]
  have hB := below1 w (.cells #[.string ⟨#[]⟩, .string ⟨#[]⟩] 29)
  go_enter Tryz.func14, Tryz.ntmps14
  go_wp2_with (go_at_call 47; (with_reducible refine (C.out _).mono ?_); rintro e w1 ⟨rfl, hb⟩; replace Z := Z.below hb; replace hB := below_up hB hb; clear hb; have Z1 := Z.alloc (.cells #[.string (numT (some r)), .string (denT (some r))] 29); have z0 := Z1.cell 0 (v := .string ⟨#[]⟩) rfl; have z1 := Z1.cell 1 (v := .string ⟨#[]⟩) rfl; have f0 := Z1.frozen 0; have f1 := Z1.frozen 1)
  have ZF := (Z1.set 0 (.string (numT (some r)))).set 1 (.string (denT (some r)))
  have e0 := ZF.cell 0 (v := .string (numT (some r))) rfl
  have e1 := ZF.cell 1 (v := .string (denT (some r))) rfl
  refine bodyPost_ret (v := .agg #[.string (numT (some r)), .string (denT (some r))]) (by simp [results, Tryz.results14, go_sem, e0, e1]) rfl ⟨rfl, below_new2 (below_up hB (below1 _ _)) (Nat.le_refl _)⟩

end Go.Proofs.YtffndcjmabjhiaaGreatDoor
