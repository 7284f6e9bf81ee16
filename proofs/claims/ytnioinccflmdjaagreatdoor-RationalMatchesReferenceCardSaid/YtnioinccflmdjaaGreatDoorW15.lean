/- workpieceref04: Parse. Conditions: sizes. -/
import Derived.Test.YtnioinccflmdjaaGreatDoorW14
import Derived.RegionTactic
import Derived.BigRegion
import Derived.Deep.CutBlock
namespace Go.Proofs.YtnioinccflmdjaaGreatDoor
open Go.RowKit Num
open Go.Shelf

theorem pr_none {s : ByteArray} (h : okR (pairT s).1 (pairT s).2 = false) : parT s = none := by
  unfold parT prT
  rw [h]
  refine if_neg (fun c => c.2 c.1.symm)
theorem pr_ne {x y : ByteArray} (h : okR x y = true) : prT x y ≠ ⟨#[]⟩ := by
  obtain ⟨q, hq⟩ := okR_ex h
  have hx : x ≠ ⟨#[]⟩ := fun e => by have := hq.1; subst e; unfold Is at this; rw [bad_nil] at this; cases this
  unfold prT
  rw [h, if_pos rfl]
  split
  · exact hx
  · intro e
    have := congrArg ByteArray.size e
    unfold slash at this
    have e2 : (⟨(x.data.toList ++ 47 :: y.data.toList).toArray⟩ : ByteArray).size = x.data.toList.length + (y.data.toList.length + 1) := by
      show (x.data.toList ++ 47 :: y.data.toList).toArray.size = _
      simp
    rw [e2, show (⟨#[]⟩ : ByteArray).size = 0 from rfl] at this
    omega
theorem pr_some {s : ByteArray} (h : okR (pairT s).1 (pairT s).2 = true) (h2 : prT (pairT s).1 (pairT s).2 = s) : parT s = some (pairT s) := by
  unfold parT
  exact if_pos ⟨h2, fun e => pr_ne h (h2.trans e)⟩
theorem pr_diff {s : ByteArray} (h2 : prT (pairT s).1 (pairT s).2 ≠ s) : parT s = none := by
  unfold parT
  exact if_neg (fun c => h2 c.1)
theorem pair_size (s : ByteArray) : (pairT s).1.size ≤ s.size + 1 ∧ (pairT s).2.size ≤ s.size + 1 := by
  unfold pairT cutT
  by_cases c : Lib.indexByte s.data.toList 47 = -1
  · rw [if_pos c]
    exact ⟨by show s.size ≤ _; omega, by show 1 ≤ _; omega⟩
  · rw [if_neg c]
    refine ⟨?_, ?_⟩
    · show (s.extract 0 _).size ≤ _
      rw [ByteArray.size_extract]; omega
    · show (s.extract _ s.size).size ≤ _
      rw [ByteArray.size_extract]; omega

set_option maxHeartbeats 4000000 in
set_option maxRecDepth 100000 in
theorem tparse_any (s : ByteArray) (hs : s.size ≤ 1000000) (w : World) : Calls Tryz.prog 19 #[.string s] w (RetPr w (parT s)) := by
  obtain ⟨o, ho⟩ : ∃ o, parT s = o := ⟨_, rfl⟩
  rw [ho]
  have HO := Lib.hid ho
  clear ho
  have hps := pair_size s
  have V := Lib.hid (fun w => tvalid_any (pairT s).1 (pairT s).2 (by omega) (by omega) w)
  have PR := Lib.hid (fun w => tprint_any (pairT s).1 (pairT s).2 (by omega) (by omega) w)
  clear hps
  have Z := (Blk.new w 23 [.string ⟨#[]⟩, .string ⟨#[]⟩]).alloc (.cells #[.string s, .string ⟨#[49]⟩] 23)
  have R := Blk.new2 w (.cells #[.string ⟨#[]⟩, .string ⟨#[]⟩] 23) 23 [.string s, .string ⟨#[49]⟩]
  have hB := below_up (below1 w (.cells #[.string ⟨#[]⟩, .string ⟨#[]⟩] 23)) (below1 _ (.cells #[.string s, .string ⟨#[49]⟩] 23))
  go_enter Tryz.func19, Tryz.ntmps19
  go_upto_block 0 with fail
  go_cut [4] (fun s4 wx => s4 = .pointer (some ⟨w.heap.size + 1, 0, none⟩) ∧ Blk wx (w.heap.size + 1) 23 [.string (pairT s).1, .string (pairT s).2] ∧ Blk wx w.heap.size 23 [.string ⟨#[]⟩, .string ⟨#[]⟩] ∧ Below w.heap.size w wx)
  case first =>
    go_wp2_with fail
    go_loopg [5] s.size (fun kx s5 wr => ∃ i : Nat, s5 = .int .i64 i ∧ i ≤ s.size ∧ s.size ≤ kx + i ∧ Hid (NoSl s i) ∧ wr = (w.alloc (.cells #[.string ⟨#[]⟩, .string ⟨#[]⟩] 23)).alloc (.cells #[.string s, .string ⟨#[49]⟩] 23))
    case atStart => exact ⟨0, rfl, by omega, by omega, Lib.hid (fun j _ h => absurd h (by omega)), rfl⟩
    case round =>
      obtain ⟨i, rfl, hi, hkx, hns, rfl⟩ := hrel
      by_cases hg : i < s.size
      · have hg' : (i : Int) < (s.size : Int) := by omega
        by_cases h47 : (s[i]'hg).toNat = 47
        · have hb : (((s[i]'hg).toNat : Int) == 47) = true := beq_iff_eq.2 (by omega)
          have CA := Lib.hid (cut_at hg hns.out h47)
          clear h47
          have r0 := R.cell 0 (v := .string s) rfl
          have r1 := R.cell 1 (v := .string ⟨#[49]⟩) rfl
          have f0 := R.frozen 0
          have f1 := R.frozen 1
          have hw1 : IntKind.i64.wrap ((i : Int) + 1) = (i : Int) + 1 := IntWalk.i64_in _ (by omega)
          go_wp2
          go_region
          go_wp2
          go_meet
          have hd := (Below.refl ((w.alloc (.cells #[.string ⟨#[]⟩, .string ⟨#[]⟩] 23)).alloc (.cells #[.string (s.extract 0 i), .string (s.extract (i + 1) s.size)] 23)).heap.size ((w.alloc (.cells #[.string ⟨#[]⟩, .string ⟨#[]⟩] 23)).alloc (.cells #[.string (s.extract 0 i), .string (s.extract (i + 1) s.size)] 23))).drew
          exact ⟨rfl, by rw [CA.out]; exact (Blk.new2 w (.cells #[.string ⟨#[]⟩, .string ⟨#[]⟩] 23) 23 [.string (s.extract 0 i), .string (s.extract (i + 1) s.size)]).below hd,
            ((Blk.new w 23 [.string ⟨#[]⟩, .string ⟨#[]⟩]).alloc _).below hd, below_up (below_up (below1 w _) (below1 _ _)) hd⟩
        · have hb : (((s[i]'hg).toNat : Int) == 47) = false := beq_eq_false_iff_ne.2 (by omega)
          have hn2 := Lib.hid (nosl_succ hg hns.out h47)
          clear h47
          go_wp2
          go_roundg (s.size - (i + 1))
          case measure => omega
          case rel => exact ⟨i + 1, by go_num, by omega, by omega, hn2, rfl⟩
      · obtain rfl : i = s.size := by omega
        have CN := Lib.hid (cut_no hns.out)
        go_wp2
        go_meet
        exact ⟨rfl, by rw [CN.out]; exact R, Z, hB⟩
  case rest =>
    clear R Z hB
    obtain ⟨rfl, R, Z, hB⟩ := hcut
    obtain ⟨W, hW⟩ : ∃ W, W = wc := ⟨_, rfl⟩
    subst hW
    cases hv : okR (pairT s).1 (pairT s).2 with
    | false =>
      obtain rfl : o = none := HO.out.symm.trans (pr_none hv)
      rw [hv] at V
      clear hv PR HO
      generalize (pairT s).1 = x at *
      generalize (pairT s).2 = y at *
      have r0 := R.cell 0 (v := .string x) rfl
      have r1 := R.cell 1 (v := .string y) rfl
      go_wp2_with (go_at_call 40; (with_reducible refine (V.out _).mono ?_); rintro e w1 ⟨rfl, hb⟩; replace hB := below_up hB hb; replace Z := Z.below hb; have z0 := Z.cell 0 (v := .string ⟨#[]⟩) rfl; have z1 := Z.cell 1 (v := .string ⟨#[]⟩) rfl; have f0 := Z.frozen 0; have f1 := Z.frozen 1; clear hb)
      have ZF := (Z.set 0 (.string ⟨#[]⟩)).set 1 (.string ⟨#[]⟩)
      have e0 := ZF.cell 0 (v := .string ⟨#[]⟩) rfl
      have e1 := ZF.cell 1 (v := .string ⟨#[]⟩) rfl
      refine bodyPost_ret (v := .tuple #[.agg #[.string ⟨#[]⟩, .string ⟨#[]⟩], .int .i64 40]) (by simp [results, Tryz.results19, go_sem, e0, e1]) rfl ⟨rfl, (hB.setCell (by dsimp; omega) _).setCell (by dsimp; omega) _⟩
    | true =>
      rw [hv] at V
      by_cases hp : prT (pairT s).1 (pairT s).2 = s
      · obtain rfl : o = some ((pairT s).1, (pairT s).2) := HO.out.symm.trans (pr_some hv hp)
        rw [hp] at PR
        clear hv hp HO
        generalize (pairT s).1 = x at *
        generalize (pairT s).2 = y at *
        have r0 := R.cell 0 (v := .string x) rfl
        have r1 := R.cell 1 (v := .string y) rfl
        go_wp2_with (first
          | (go_at_call 40; (with_reducible refine (V.out _).mono ?_); rintro e w1 ⟨rfl, hb⟩; replace hB := below_up hB hb; replace Z := Z.below hb; replace R := R.below hb; have r0 := R.cell 0 (v := .string x) rfl; have r1 := R.cell 1 (v := .string y) rfl; clear hb)
          | (go_at_call 16; (with_reducible refine (PR.out _).mono ?_); rintro e w1 ⟨rfl, hb⟩; replace hB := below_up hB hb; replace Z := Z.below hb; replace R := R.below hb; have r0 := R.cell 0 (v := .string x) rfl; have r1 := R.cell 1 (v := .string y) rfl; have z0 := Z.cell 0 (v := .string ⟨#[]⟩) rfl; have z1 := Z.cell 1 (v := .string ⟨#[]⟩) rfl; have f0 := Z.frozen 0; have f1 := Z.frozen 1; clear hb))
        have ZF := (Z.set 0 (.string x)).set 1 (.string y)
        have e0 := ZF.cell 0 (v := .string x) rfl
        have e1 := ZF.cell 1 (v := .string y) rfl
        refine bodyPost_ret (v := .tuple #[.agg #[.string x, .string y], .int .i64 0]) (by simp [results, Tryz.results19, go_sem, e0, e1]) rfl ⟨rfl, (hB.setCell (by dsimp; omega) _).setCell (by dsimp; omega) _⟩
      · obtain rfl : o = none := HO.out.symm.trans (pr_diff hp)
        have hne := ne_str hp
        clear hv hp HO
        generalize prT (pairT s).1 (pairT s).2 = t at *
        generalize (pairT s).1 = x at *
        generalize (pairT s).2 = y at *
        have r0 := R.cell 0 (v := .string x) rfl
        have r1 := R.cell 1 (v := .string y) rfl
        go_wp2_with (first
          | (go_at_call 40; (with_reducible refine (V.out _).mono ?_); rintro e w1 ⟨rfl, hb⟩; replace hB := below_up hB hb; replace Z := Z.below hb; replace R := R.below hb; have r0 := R.cell 0 (v := .string x) rfl; have r1 := R.cell 1 (v := .string y) rfl; clear hb)
          | (go_at_call 16; (with_reducible refine (PR.out _).mono ?_); rintro e w1 ⟨rfl, hb⟩; replace hB := below_up hB hb; replace Z := Z.below hb; replace R := R.below hb; have z0 := Z.cell 0 (v := .string ⟨#[]⟩) rfl; have z1 := Z.cell 1 (v := .string ⟨#[]⟩) rfl; have f0 := Z.frozen 0; have f1 := Z.frozen 1; clear hb))
        have ZF := (Z.set 0 (.string ⟨#[]⟩)).set 1 (.string ⟨#[]⟩)
        have e0 := ZF.cell 0 (v := .string ⟨#[]⟩) rfl
        have e1 := ZF.cell 1 (v := .string ⟨#[]⟩) rfl
        refine bodyPost_ret (v := .tuple #[.agg #[.string ⟨#[]⟩, .string ⟨#[]⟩], .int .i64 40]) (by simp [results, Tryz.results19, go_sem, e0, e1]) rfl ⟨rfl, (hB.setCell (by dsimp; omega) _).setCell (by dsimp; omega) _⟩

end Go.Proofs.YtnioinccflmdjaaGreatDoor
