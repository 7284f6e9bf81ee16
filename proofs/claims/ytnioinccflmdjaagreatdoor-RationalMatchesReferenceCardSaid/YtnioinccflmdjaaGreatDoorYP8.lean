/- RationalMatchesReference: for every input the law returns true, and its arguments read as they did. Condition: the listed package-level variables hold what the program's text lays (the card ties them). -/
import Derived.Test.YtnioinccflmdjaaGreatDoorW19
import Derived.Test.YtnioinccflmdjaaGreatDoorLF4
namespace Go.Proofs.YtnioinccflmdjaaGreatDoor
open Go Go.ChangeShapes Go.WideShapes Go.ChangeAt Go.RowKit

set_option maxRecDepth 100000 in
theorem rationalMatchesReference_lifted (os : Os) (started : os.Started) (H : Type) (enc : TypeId × Value → H) :
    ReturnsInHanded {} Tryz.checked os 6 .any (fun w args => (Rows.rationalMatchesReferenceSpec.pre enc Tryz.prog Tryz.f6 Rows.rationalMatchesReferenceRow.domain false w args ∧ laidMetH Tryz.prog Rows.rationalMatchesReferenceRow.laid w) ∧ sizedMet enc Tryz.prog Tryz.f6 (OpenSpec.ofChange Rows.rationalMatchesReferenceSpec) false w args)
      (Rows.rationalMatchesReferenceSpec.post enc Tryz.prog Tryz.f6 false true false false) := by
  refine returnsInHanded_of_change_and (C := Tryz.checked) (X := fun w _ => laidMetH Tryz.prog Rows.rationalMatchesReferenceRow.laid w) (fun _ _ _ hh h => h.of_heap hh) Tryz.own started (by kernel_rfl) Tryz.func6
    (ChangeSpec.witness_shaped (enc := enc) (C := Tryz.checked) (os := os) (X := fun w _ => laidMetH Tryz.prog Rows.rationalMatchesReferenceRow.laid w) false (World.laidAll Tryz.prog os Rows.rationalMatchesReferenceRow.laid) #[.agg #[.string ⟨#[]⟩, .string ⟨#[]⟩], .agg #[.string ⟨#[]⟩, .string ⟨#[]⟩], .agg #[.int .i64 0, .int .i64 0, .int .i64 0, .int .i64 0], .agg #[.int .i64 0, .int .i64 0, .int .i64 0, .int .i64 0], .agg #[.int .i64 0, .int .i64 0], .int .i64 0, .int .i64 0, .int .i64 0] 8 (World.laidAll_os _ _ _)
      (World.shaped_of_ZipB (by kernel_rfl) (by kernel_rfl)) (by kernel_rfl) (by kernel_rfl) (by kernel_rfl)
      (by rw [MakeChecks.laidMetH_plain _ _ _ (by kernel_rfl)]; exact laidMet_laidAll _ (by kernel_rfl) (by kernel_rfl))) ?_
  intro W base args ds gs before hval0 hW hc _ hL _
  have hval : ∀ (j : Nat) t v, Tryz.f6.params[j]? = some t → args[j]? = some v → Value.okWide Tryz.prog W .any base t v := hval0
  have hW' := hW
  obtain ⟨p, q, hA0, hV, rfl, _, _⟩ := hW
  have hA : DataW.TrodAll enc Tryz.prog W 0 (fun _ => true) true Tryz.f6.params.toList args.toList ds p := hA0
  rw [Tryz.params6] at hA hval
  obtain ⟨v0, vs0, d0, ds0, p0, q0, hargs, rfl, rfl, h0, r0⟩ := trodAll_cons hA
  obtain ⟨v1, vs1, d1, ds1, p1, q1, rfl, rfl, rfl, h1, r1⟩ := trodAll_cons r0
  obtain ⟨v2, vs2, d2, ds2, p2, q2, rfl, rfl, rfl, h2, r2⟩ := trodAll_cons r1
  obtain ⟨v3, vs3, d3, ds3, p3, q3, rfl, rfl, rfl, h3, r3⟩ := trodAll_cons r2
  obtain ⟨v4, vs4, d4, ds4, p4, q4, rfl, rfl, rfl, h4, r4⟩ := trodAll_cons r3
  obtain ⟨v5, vs5, d5, ds5, p5, q5, rfl, rfl, rfl, h5, r5⟩ := trodAll_cons r4
  obtain ⟨v6, vs6, d6, ds6, p6, q6, rfl, rfl, rfl, h6, r6⟩ := trodAll_cons r5
  obtain ⟨v7, vs7, d7, ds7, p7, q7, rfl, rfl, rfl, h7, r7⟩ := trodAll_cons r6
  obtain ⟨rfl, rfl, rfl⟩ := trodAll_nil r7
  obtain rfl : args = #[v0, v1, v2, v3, v4, v5, v6, v7] := by cases args; simp_all
  obtain ⟨rfl, rfl⟩ := trodVars_none hV
  clear hA0
  obtain ⟨x0, y0, rfl, rfl, rfl, w0, m0⟩ := open_rat Tryz.underlying23 (by kernel_rfl) (by kernel_rfl) Tryz.underlying9 Tryz.underlying9 (hval 0 23 v0 rfl rfl) h0
  obtain ⟨x1, y1, rfl, rfl, rfl, w1, m1⟩ := open_rat Tryz.underlying23 (by kernel_rfl) (by kernel_rfl) Tryz.underlying9 Tryz.underlying9 (hval 1 23 v1 rfl rfl) h1
  obtain ⟨x2_0, x2_1, x2_2, x2_3, rfl, rfl, rfl, w2_0, w2_1, w2_2, w2_3⟩ := open_arr4 Tryz.underlying24 Tryz.underlying3 (by kernel_rfl) (by kernel_rfl) (hval 2 24 v2 rfl rfl) h2
  obtain ⟨x3_0, x3_1, x3_2, x3_3, rfl, rfl, rfl, w3_0, w3_1, w3_2, w3_3⟩ := open_arr4 Tryz.underlying24 Tryz.underlying3 (by kernel_rfl) (by kernel_rfl) (hval 3 24 v3 rfl rfl) h3
  obtain ⟨x4_0, x4_1, rfl, rfl, rfl, w4_0, w4_1⟩ := open_arr2 Tryz.underlying47 Tryz.underlying3 (by kernel_rfl) (by kernel_rfl) (hval 4 47 v4 rfl rfl) h4
  obtain ⟨x5, rfl, rfl, rfl, w5⟩ := open_int Tryz.underlying3 (hval 5 3 v5 rfl rfl) h5
  obtain ⟨x6, rfl, rfl, rfl, w6⟩ := open_int Tryz.underlying3 (hval 6 3 v6 rfl rfl) h6
  obtain ⟨x7, rfl, rfl, rfl, w7⟩ := open_int Tryz.underlying3 (hval 7 3 v7 rfl rfl) h7
  simp only [List.append_nil] at hW'
  refine (qmatches_any x0 y0 x1 y1 (max64 w0) (max64 m0) (max64 w1) (max64 m1) x2_0 x2_1 x2_2 x2_3 x3_0 x3_1 x3_2 x3_3 x4_0 x4_1 x5 x6 x7 (wf64 w2_0) (wf64 w2_1) (wf64 w2_2) (wf64 w2_3) (wf64 w3_0) (wf64 w3_1) (wf64 w3_2) (wf64 w3_3) (wf64 w4_0) (wf64 w4_1) (wf64 w5) (wf64 w6) (wf64 w7) W (laid_of hL)).mono fun e W' hq => ?_
  obtain ⟨rfl, hb⟩ := hq
  exact ⟨_, rfl, post_below hW' (fun _ _ _ => trodAll_mk1 (shut_bool Tryz.underlying4 _)) (fun _ => trodAll_cons_mk (shut_rat Tryz.underlying23 (by kernel_rfl) (by kernel_rfl) Tryz.underlying9 Tryz.underlying9 w0 m0) (trodAll_cons_mk (shut_rat Tryz.underlying23 (by kernel_rfl) (by kernel_rfl) Tryz.underlying9 Tryz.underlying9 w1 m1) (trodAll_cons_mk (shut_arr4 Tryz.underlying24 Tryz.underlying3 (by kernel_rfl) (by kernel_rfl) w2_0 w2_1 w2_2 w2_3) (trodAll_cons_mk (shut_arr4 Tryz.underlying24 Tryz.underlying3 (by kernel_rfl) (by kernel_rfl) w3_0 w3_1 w3_2 w3_3) (trodAll_cons_mk (shut_arr2 Tryz.underlying47 Tryz.underlying3 (by kernel_rfl) (by kernel_rfl) w4_0 w4_1) (trodAll_cons_mk (shut_int Tryz.underlying3 w5) (trodAll_cons_mk (shut_int Tryz.underlying3 w6) (trodAll_cons_mk (shut_int Tryz.underlying3 w7) (trodAll_mk0))))))))) (fun _ => rfl) hb (ok_one (by kernel_rfl) rfl (okWide_bool_mk Tryz.underlying4 _))⟩

theorem rationalMatchesReference_said : Rows.RationalMatchesReferenceSaid :=
  OpenClaim.holds_of_wide 6 Tryz.f6 rfl rfl rfl rfl rfl rfl rfl ⟨rfl, rfl, rfl, rfl, rfl⟩ rfl rfl rfl rfl rfl (by kernel_rfl) Tryz.func6 (by kernel_rfl)
    (of_decide_eq_true (by kernel_rfl)) (by unfold Func.isWrapper; first | (rw [if_pos (by decide +kernel)]; kernel_rfl) | (rw [if_neg (by decide +kernel)]; exact ⟨rfl, rfl⟩))
    (fun os started H enc _ => rationalMatchesReference_lifted os started H enc)

theorem rationalMatchesReference_holds : Rows.RationalMatchesReferenceCardSaid :=
  Claim7.holds_tied_plain_at .later [] _ _ _ _ rationalMatchesReference_said (fun _ h => by cases h) (by kernel_rfl) (fun _ h => by cases h) rationalMatchesReference_row_tie rfl ⟨rfl, rfl⟩ (by kernel_rfl) rfl
    (fun f fn hf hfn => by
      obtain rfl : f = 6 := Option.some.inj ((show Tryz.prog.funcNamed "workpiece/workpiecelaw04.RationalMatchesReference" = some 6 by kernel_rfl).symm.trans hf) |>.symm
      obtain rfl : fn = Tryz.f6 := (Option.some.inj (Tryz.func6.symm.trans hfn)).symm
      exact ⟨by kernel_rfl, fun j t ht => by
        rw [Tryz.params6] at ht
        have hm : t ∈ [23, 23, 24, 24, 47, 3, 3, 3] := by simpa using Array.mem_of_getElem? ht
        have hall : ([23, 23, 24, 24, 47, 3, 3, 3].all fun u => !Tryz.prog.wantsStandIn u) = true := by kernel_rfl
        exact (show Tryz.prog.wantsStandIn t = false by simpa using List.all_eq_true.1 hall t hm)⟩)
    (by kernel_rfl)
#print axioms rationalMatchesReference_holds

end Go.Proofs.YtnioinccflmdjaaGreatDoor
