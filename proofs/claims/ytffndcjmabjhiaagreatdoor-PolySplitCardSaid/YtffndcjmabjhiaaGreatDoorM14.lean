/- The recursive function of Isolate: its walk. Conditions: the tables of strconv; the chain is small; no operation fails. -/
import Derived.Test.YtffndcjmabjhiaaGreatDoorM13
namespace Go.Proofs.YtffndcjmabjhiaaGreatDoor
open Go.RowKit Num
open Go.Shelf


set_option maxHeartbeats 1500000 in
set_option maxRecDepth 100000 in
theorem exam_any {wS w0 : World} {q bm bs be : Nat} {ch : Value} {ls : List (List Rat)} {most : Rat} {sp : List Value} (E : Env wS w0 q bm bs be ch ls most sp) (hmf : fitQ most) (hl14 : ls.length ≤ 14) (ok : Rat → Bool) (hok : ∀ x, ok x = true → Pe ls x) :
    ∀ (k : Nat) (a b : Rat) (new l : List (Rat × Rat)) (v : Value) (W : World), examO ls most ok k a b = some new → l.length + new.length ≤ 1000 → Pe ls a → Pe ls b → ExW w0 W q v l →
      Calls Tryz.prog 57 #[.agg #[.string (numT (some a)), .string (denT (some a)), .int .i64 (varL ls a : Nat), .bool (rootL ls a)], .agg #[.string (numT (some b)), .string (denT (some b)), .int .i64 (varL ls b : Nat), .bool (rootL ls b)], .pointer (some ⟨bm, 0, none⟩), .pointer (some ⟨q, 0, none⟩), .pointer (some ⟨bs, 0, none⟩), .pointer (some ⟨be, 0, none⟩)] W (RetEx w0 W q (l ++ new)) := by
  obtain ⟨-, gc, cc, rfl, -⟩ := id E.cv
  intro k
  induction k with
  | zero => intro a b new l v W h; cases h
  | succ k ih =>
    intro a b new l v W h hlen ha hb hX
    have hva := var_le ls a
    have hvb := var_le ls b
    obtain ⟨Av, cv, rfl⟩ := hX.row.slv
    have HX := Lib.hid hX
    have HE := Lib.hid E
    have HIH := Lib.hid ih
    have hcase := exam_cases h
    clear ih h
    have hw : IntKind.i64.wrap ((varL ls a : Int) - (varL ls b : Int)) = (varL ls a : Int) - (varL ls b : Int) := IntWalk.i64_in _ (by omega)
    have hB := below_up (below1 W (.cells #[.string (numT (some a)), .string (denT (some a)), .int .i64 (varL ls a : Nat), .bool (rootL ls a)] 98)) (below1 _ (.cells #[.string (numT (some b)), .string (denT (some b)), .int .i64 (varL ls b : Nat), .bool (rootL ls b)] 98))
    rcases hcase with ⟨hv, rfl⟩ | ⟨hv, sm, hsmo, hcs⟩
    · have hz : ((varL ls a : Int) - (varL ls b : Int) == 0) = true := beq_iff_eq.2 (by omega)
      generalize varL ls a = va at *
      generalize varL ls b = vb at *
      generalize rootL ls a = ra at *
      generalize rootL ls b = rb at *
      clear hv
      go_enter Tryz.func57, Tryz.ntmps57
      go_wp2
      go_end0
      rw [List.append_nil]
      exact ⟨rfl, _, HX.out.below hB, fun k o hk _ _ => keep_below hB hk⟩
    · have hz : ((varL ls a : Int) - (varL ls b : Int) == 0) = false := beq_eq_false_iff_ne.2 (by omega)
      have hcut : ∃ sm', sm' = sm := ⟨_, rfl⟩
      have KA : Hid (∀ m, ok m = true → Pe ls m) := Lib.hid hok
      have CA : Hid (∀ (x : Rat) (c : Value) (w : World), Pe ls x → Cv w c ls → Laid w → Calls Tryz.prog 59 #[c, .agg #[.string (numT (some x)), .string (denT (some x))]] w (fun e w' => e = .returned (.agg #[.string (numT (some x)), .string (denT (some x)), .int .i64 (varL ls x : Nat), .bool (rootL ls x)]) ∧ Below w.heap.size w w')) := Lib.hid (fun x c w hx hc hL => chat_any w hc hx hL)
      have HSM := Lib.hid hsmo
      clear hsmo hcut hok
      generalize hgva : varL ls a = va at *
      generalize hgvb : varL ls b = vb at *
      have HVA := Lib.hid hgva
      have HVB := Lib.hid hgvb
      clear hgva hgvb
      have HCS := Lib.hid hcs
      have Ba := (Blk.new W 98 [.string (numT (some a)), .string (denT (some a)), .int .i64 va, .bool (rootL ls a)]).alloc (.cells #[.string (numT (some b)), .string (denT (some b)), .int .i64 vb, .bool (rootL ls b)] 98)
      have Bb := Blk.new2 W (.cells #[.string (numT (some a)), .string (denT (some a)), .int .i64 va, .bool (rootL ls a)] 98) 98 [.string (numT (some b)), .string (denT (some b)), .int .i64 vb, .bool (rootL ls b)]
      have Bm := ((HE.out.m).turn HX.out.turn (by rw [List.mem_singleton]; exact HE.out.mq)).below hB
      have hL1 := HE.out.laid.below (below_up (HX.out.low HE.out) hB)
      clear hcs
      generalize hra : rootL ls a = ra at *
      generalize hrb : rootL ls b = rb at *
      have HRA := Lib.hid hra
      have HRB := Lib.hid hrb
      clear hra hrb hv
      go_enter Tryz.func57, Tryz.ntmps57
      go_wp2
      obtain ⟨W2, hW2⟩ : ∃ W2, (W.alloc (.cells #[.string (numT (some a)), .string (denT (some a)), .int .i64 va, .bool ra] 98)).alloc (.cells #[.string (numT (some b)), .string (denT (some b)), .int .i64 vb, .bool rb] 98) = W2 := ⟨_, rfl⟩
      rw [hW2] at Ba Bb Bm hB hL1 ⊢
      clear hW2
      go_cut [9] (fun s9 wx => s9 = .bool sm ∧ Below W2.heap.size W2 wx)
      case first =>
        by_cases h1 : (va : Int) - (vb : Int) = 1
        · have hd1 : ((va : Int) - (vb : Int) == 1) = true := beq_iff_eq.2 h1
          have hso := HSM.out
          unfold smallO at hso
          rw [if_pos h1] at hso
          obtain ⟨d, hd, hd2⟩ := Option.bind_eq_some_iff.1 hso
          have hsm2 : sm = decide (cmpO (some d) (some most) ≤ 0) := (Option.some.inj hd2).symm
          have CC := Lib.hid (fun (w : World) (hL : Laid w) => cmp_r (rat_tx (subQ_fit hd)) (rat_tx hmf) (c := cmpO (some d) (some most)) rfl w hL)
          have CB := Lib.hid (fun (w : World) (hL : Laid w) => psub_c hb.1 ha.1 hd w hL)
          generalize cmpO (some d) (some most) = cq at *
          subst hsm2
          clear hso hd hd2 h1 HSM HCS
          have hZ : Below W2.heap.size W2 W2.drew := (Below.refl _ _).drew
          have hb := hZ
          have Ba2 := Ba
          have Bb2 := Bb
          have Bm2 := Bm
          have Ba2 := Ba2.below hb
          have Bb2 := Bb2.below hb
          have Bm2 := Bm2.below hb
          have a0 := Ba2.cell 0 (v := .string (numT (some a))) rfl
          have a1 := Ba2.cell 1 (v := .string (denT (some a))) rfl
          have b0 := Bb2.cell 0 (v := .string (numT (some b))) rfl
          have b1 := Bb2.cell 1 (v := .string (denT (some b))) rfl
          have m0 := Bm2.cell 0 (v := .string (numT (some most))) rfl
          have m1 := Bm2.cell 1 (v := .string (denT (some most))) rfl
          clear hb
          go_region_held3 (fun w' => w'.cell? ⟨W.heap.size, 0, none⟩ = some (.string (numT (some a))) ∧ w'.cell? ⟨W.heap.size, 1, none⟩ = some (.string (denT (some a))) ∧ w'.cell? ⟨W.heap.size + 1, 0, none⟩ = some (.string (numT (some b))) ∧ w'.cell? ⟨W.heap.size + 1, 1, none⟩ = some (.string (denT (some b))) ∧ w'.cell? ⟨bm, 0, none⟩ = some (.string (numT (some most))) ∧ w'.cell? ⟨bm, 1, none⟩ = some (.string (denT (some most)))) (go_keep) (first
            | (go_at_call 58; (with_reducible refine (CB.out _ (hL1.below hZ)).mono ?_); rintro e wN ⟨rfl, hb⟩; have hZ := below_up hZ hb; have Ba2 := Ba2.below hb; have Bb2 := Bb2.below hb; have Bm2 := Bm2.below hb; have a0 := Ba2.cell 0 (v := .string (numT (some a))) rfl; have a1 := Ba2.cell 1 (v := .string (denT (some a))) rfl; have b0 := Bb2.cell 0 (v := .string (numT (some b))) rfl; have b1 := Bb2.cell 1 (v := .string (denT (some b))) rfl; have m0 := Bm2.cell 0 (v := .string (numT (some most))) rfl; have m1 := Bm2.cell 1 (v := .string (denT (some most))) rfl)
            | (go_at_call 17; (with_reducible refine (CC.out _ (hL1.below hZ)).mono ?_); rintro e wN ⟨rfl, hb⟩; have hZ := below_up hZ hb; have Ba2 := Ba2.below hb; have Bb2 := Bb2.below hb; have Bm2 := Bm2.below hb; have a0 := Ba2.cell 0 (v := .string (numT (some a))) rfl; have a1 := Ba2.cell 1 (v := .string (denT (some a))) rfl; have b0 := Bb2.cell 0 (v := .string (numT (some b))) rfl; have b1 := Bb2.cell 1 (v := .string (denT (some b))) rfl; have m0 := Bm2.cell 0 (v := .string (numT (some most))) rfl; have m1 := Bm2.cell 1 (v := .string (denT (some most))) rfl))
          all_goals go_wp2_with fail
          all_goals go_meet
          all_goals exact ⟨rfl, hZ⟩
        · have hd1 : ((va : Int) - (vb : Int) == 1) = false := beq_eq_false_iff_ne.2 h1
          have hso := HSM.out
          unfold smallO at hso
          rw [if_neg h1] at hso
          obtain rfl : false = sm := Option.some.inj hso
          clear hso HSM HCS h1
          go_quiet (fail)
          go_wp2_with fail
          go_meet
          exact ⟨rfl, below_drewN (Below.refl _ _) _⟩
      case rest =>
        obtain ⟨rfl, hp⟩ := hcut
        have Ba3 := Ba.below hp
        have Bb3 := Bb.below hp
        have hB3 := below_up hB hp
        have HX3 := Lib.hid (HX.out.below hB3)
        clear Ba Bb Bm hB hp
        have k0 := HX3.out.box.cell 0 (v := .slice Av l.length cv) rfl
        have kf := HX3.out.box.frozen 0
        have a0 := Ba3.cell 0 (v := .string (numT (some a))) rfl
        have a1 := Ba3.cell 1 (v := .string (denT (some a))) rfl
        have a3 := Ba3.cell 3 (v := .bool ra) rfl
        have b0 := Bb3.cell 0 (v := .string (numT (some b))) rfl
        have b1 := Bb3.cell 1 (v := .string (denT (some b))) rfl
        have b3 := Bb3.cell 3 (v := .bool rb) rfl
        have HLL := Lib.hid hlen
        have HBS := Lib.hid (Nat.le_trans HX.out.turn.size hB3.size)
        have HQ := Lib.hid HE.out.qh
        rcases HCS.out with ⟨rfl, rfl, rfl⟩ | ⟨rfl, rfl, rfl, rfl⟩ | ⟨hh, s, m, l1, l2, h4, h5, h6, h7, h8, rfl⟩
        · clear HCS
          go_wp2_with (at_builtin; refine app_iv rfl (.tmp 54) (.tmp 60) Tryz.underlying34 rfl w0.heap.size _ l b b rfl HX3.out.row rfl (by have := HLL.out; simp at this; omega) HBS.out ?_; intro v' wA hRA hgA; obtain ⟨Aw, cw, rfl⟩ := hRA.slv; have HRA := Lib.hid hRA; have HGA := Lib.hid hgA; have qb := (HX3.out.box.alloc _).block (hgA.block q (by rw [World.size_alloc]; have := HX3.out.box.lt; omega) (fun e => by have h9 := (HX3.out.row.lt e.symm).1; have h10 := HQ.out; omega)); have q0 := qb.cell 0 (v := .slice Av l.length cv) rfl; have qf := qb.frozen 0; clear hRA hgA)
          have hR2 : RowI wA w0.heap.size (.slice Aw (l.length + 1) cw) (l ++ [(b, b)]) := by
            have h9 := HRA.out
            rwa [show (l ++ [(b, b)]).length = l.length + 1 by simp] at h9
          obtain ⟨hXF, hKF⟩ := HX3.out.app HQ.out hR2 HGA.out
          go_end0
          exact ⟨rfl, _, hXF, fun k o hk hn hq => hKF k o (keep_below hB3 hk) hn hq⟩
        · clear HCS
          go_wp2_with (at_builtin; refine app_iv rfl (.tmp 69) (.tmp 75) Tryz.underlying34 rfl w0.heap.size _ l a b rfl HX3.out.row rfl (by have := HLL.out; simp at this; omega) HBS.out ?_; intro v' wA hRA hgA; obtain ⟨Aw, cw, rfl⟩ := hRA.slv; have HRA := Lib.hid hRA; have HGA := Lib.hid hgA; have qb := (HX3.out.box.alloc _).block (hgA.block q (by rw [World.size_alloc]; have := HX3.out.box.lt; omega) (fun e => by have h9 := (HX3.out.row.lt e.symm).1; have h10 := HQ.out; omega)); have q0 := qb.cell 0 (v := .slice Av l.length cv) rfl; have qf := qb.frozen 0; clear hRA hgA)
          have hR2 : RowI wA w0.heap.size (.slice Aw (l.length + 1) cw) (l ++ [(a, b)]) := by
            have h9 := HRA.out
            rwa [show (l ++ [(a, b)]).length = l.length + 1 by simp] at h9
          obtain ⟨hXF, hKF⟩ := HX3.out.app HQ.out hR2 HGA.out
          go_end0
          exact ⟨rfl, _, hXF, fun k o hk hn hq => hKF k o (keep_below hB3 hk) hn hq⟩
        · have hm : Pe ls m := KA.out m h6
          have hfa : fitQ (2 : Rat) := by unfold fitQ; decide
          have CAD := Lib.hid (fun (w : World) (hL : Laid w) => padd_c ha.1 hb.1 h4 w hL)
          have CW2 : Hid (∀ (w : World), Laid w → Calls Tryz.prog 62 #[.int .i64 2] w (RetR w 2)) := Lib.hid (fun w hL => whole_any 2 (by decide) (by decide) w hL)
          have CDV := Lib.hid (fun (w : World) (hL : Laid w) => pdiv_c (addQ_fit h4) hfa h5 w hL)
          have CAT := Lib.hid (fun (c : Value) (w : World) (hc : Cv w c ls) (hL : Laid w) => CA.out m c w hm hc hL)
          have I1 := Lib.hid (fun (v : Value) (W : World) (hX : ExW w0 W q v l) => HIH.out a m l1 l v W h7 (by have := HLL.out; rw [List.length_append] at this; omega) ha hm hX)
          have I2 := Lib.hid (fun (v : Value) (W : World) (hX : ExW w0 W q v (l ++ l1)) => HIH.out m b l2 (l ++ l1) v W h8 (by have := HLL.out; rw [List.length_append] at this ⊢; omega) hm hb hX)
          have hlow := HX3.out.low HE.out
          have HL3 := Lib.hid (HE.out.laid.below hlow)
          have HCV := Lib.hid (HE.out.cv.below hlow)
          have Bs3 := HE.out.s.turn HX3.out.turn (by rw [List.mem_singleton]; exact HE.out.sq)
          have Be3 := HE.out.e.turn HX3.out.turn (by rw [List.mem_singleton]; exact HE.out.eq)
          have s0 := Bs3.cell 0 (v := .slice (some ⟨gc, 0, none⟩) ls.length cc) rfl
          have hqW : q < W.heap.size := Nat.lt_of_lt_of_le HE.out.qh HX.out.turn.size
          rw [HVA.out, HRA.out] at I1
          rw [HVB.out, HRB.out] at I2
          clear HCS h4 h5 h6 h7 h8 HIH CA KA hlow hm hfa HVA HVB HRA HRB
          generalize varL ls m = vm at *
          generalize rootL ls m = rm at *
          rcases hh with ⟨rfl, rfl, rfl⟩ | rfl
          · go_wp2_with fail
            go_cut [10] (fun s10 wx => ∃ g, wc.heap.size ≤ g ∧ BoxOut wc g 98 [.string (numT (some m)), .string (denT (some m)), .int .i64 vm, .bool rm] s10 wx)
            case first =>
              clear I1 I2
              have hZ : Below wc.heap.size wc wc.drew := (Below.refl _ _).drew
              have Ba4 := Ba3.below hZ
              have Bb4 := Bb3.below hZ
              have Bs4 := Bs3.below hZ
              have a0 := Ba4.cell 0 (v := .string (numT (some a))) rfl
              have a1 := Ba4.cell 1 (v := .string (denT (some a))) rfl
              have b0 := Bb4.cell 0 (v := .string (numT (some b))) rfl
              have b1 := Bb4.cell 1 (v := .string (denT (some b))) rfl
              have s0 := Bs4.cell 0 (v := .slice (some ⟨gc, 0, none⟩) ls.length cc) rfl
              have e0 := Nat.ne_of_gt (cell_lt a0)
              have e1 := Nat.ne_of_gt (cell_lt b0)
              have e2 := Nat.ne_of_gt (cell_lt s0)
              have d0 := Nat.ne_of_gt (Ba3.lt)
              have d1 := Nat.ne_of_gt (Bb3.lt)
              have d2 := Nat.ne_of_gt (Bs3.lt)
              have d3 := d0.symm
              have d4 := d1.symm
              have d5 := d2.symm
              go_region_held3 (fun w' => w'.cell? ⟨W.heap.size, 0, none⟩ = some (.string (numT (some a))) ∧ w'.cell? ⟨W.heap.size, 1, none⟩ = some (.string (denT (some a))) ∧ w'.cell? ⟨W.heap.size + 1, 0, none⟩ = some (.string (numT (some b))) ∧ w'.cell? ⟨W.heap.size + 1, 1, none⟩ = some (.string (denT (some b))) ∧ w'.cell? ⟨bs, 0, none⟩ = some (.slice (some ⟨gc, 0, none⟩) ls.length cc)) (go_keep) (first
                | (go_at_call 61; (with_reducible refine (CAD.out _ (HL3.out.below (by first | exact hZ | exact below_up hZ (below1 _ _)))).mono ?_); rintro e wN ⟨rfl, hb'⟩; (try first | (have BN := Blk.below BN hb') | (have BN : Blk wN wc.heap.size 98 [.string ⟨#[]⟩, .string ⟨#[]⟩, .int .i64 0, .bool false] := Blk.below (Blk.new wc.drew 98 [.string ⟨#[]⟩, .string ⟨#[]⟩, .int .i64 0, .bool false]) hb'; have hg : wc.heap.size ≤ wc.heap.size := Nat.le_refl _) | (have BN := Blk.below (Blk.new _ 98 [.string ⟨#[]⟩, .string ⟨#[]⟩, .int .i64 0, .bool false]) hb'; have hg := hZ.size)); have hZ := (by first | exact below_up hZ hb' | exact below_up (below_up hZ (below1 _ _)) hb' : Below wc.heap.size wc wN); have Ba4 := (by first | exact Ba4.below hb' | exact (Ba4.alloc _).below hb' : Blk wN W.heap.size 98 [.string (numT (some a)), .string (denT (some a)), .int .i64 va, .bool true]); have Bb4 := (by first | exact Bb4.below hb' | exact (Bb4.alloc _).below hb' : Blk wN (W.heap.size + 1) 98 [.string (numT (some b)), .string (denT (some b)), .int .i64 vb, .bool false]); have Bs4 := (by first | exact Bs4.below hb' | exact (Bs4.alloc _).below hb' : Blk wN bs 100 (.slice (some ⟨gc, 0, none⟩) ls.length cc :: sp)); have a0 := Ba4.cell 0 (v := .string (numT (some a))) rfl; have a1 := Ba4.cell 1 (v := .string (denT (some a))) rfl; have b0 := Bb4.cell 0 (v := .string (numT (some b))) rfl; have b1 := Bb4.cell 1 (v := .string (denT (some b))) rfl; have s0 := Bs4.cell 0 (v := .slice (some ⟨gc, 0, none⟩) ls.length cc) rfl; have e0 := Nat.ne_of_gt (cell_lt a0); have e1 := Nat.ne_of_gt (cell_lt b0); have e2 := Nat.ne_of_gt (cell_lt s0); (try (have n0 := BN.cell 0 (v := .string ⟨#[]⟩) rfl; have m0 := BN.frozen 0)); (try (have n1 := BN.cell 1 (v := .string ⟨#[]⟩) rfl; have m1 := BN.frozen 1)); (try (have n2 := BN.cell 2 (v := .int .i64 0) rfl; have m2 := BN.frozen 2)); (try (have n3 := BN.cell 3 (v := .bool false) rfl; have m3 := BN.frozen 3)))
                | (go_at_call 62; (with_reducible refine (CW2.out _ (HL3.out.below (by first | exact hZ | exact below_up hZ (below1 _ _)))).mono ?_); rintro e wN ⟨rfl, hb'⟩; (try first | (have BN := Blk.below BN hb') | (have BN : Blk wN wc.heap.size 98 [.string ⟨#[]⟩, .string ⟨#[]⟩, .int .i64 0, .bool false] := Blk.below (Blk.new wc.drew 98 [.string ⟨#[]⟩, .string ⟨#[]⟩, .int .i64 0, .bool false]) hb'; have hg : wc.heap.size ≤ wc.heap.size := Nat.le_refl _) | (have BN := Blk.below (Blk.new _ 98 [.string ⟨#[]⟩, .string ⟨#[]⟩, .int .i64 0, .bool false]) hb'; have hg := hZ.size)); have hZ := (by first | exact below_up hZ hb' | exact below_up (below_up hZ (below1 _ _)) hb' : Below wc.heap.size wc wN); have Ba4 := (by first | exact Ba4.below hb' | exact (Ba4.alloc _).below hb' : Blk wN W.heap.size 98 [.string (numT (some a)), .string (denT (some a)), .int .i64 va, .bool true]); have Bb4 := (by first | exact Bb4.below hb' | exact (Bb4.alloc _).below hb' : Blk wN (W.heap.size + 1) 98 [.string (numT (some b)), .string (denT (some b)), .int .i64 vb, .bool false]); have Bs4 := (by first | exact Bs4.below hb' | exact (Bs4.alloc _).below hb' : Blk wN bs 100 (.slice (some ⟨gc, 0, none⟩) ls.length cc :: sp)); have a0 := Ba4.cell 0 (v := .string (numT (some a))) rfl; have a1 := Ba4.cell 1 (v := .string (denT (some a))) rfl; have b0 := Bb4.cell 0 (v := .string (numT (some b))) rfl; have b1 := Bb4.cell 1 (v := .string (denT (some b))) rfl; have s0 := Bs4.cell 0 (v := .slice (some ⟨gc, 0, none⟩) ls.length cc) rfl; have e0 := Nat.ne_of_gt (cell_lt a0); have e1 := Nat.ne_of_gt (cell_lt b0); have e2 := Nat.ne_of_gt (cell_lt s0); (try (have n0 := BN.cell 0 (v := .string ⟨#[]⟩) rfl; have m0 := BN.frozen 0)); (try (have n1 := BN.cell 1 (v := .string ⟨#[]⟩) rfl; have m1 := BN.frozen 1)); (try (have n2 := BN.cell 2 (v := .int .i64 0) rfl; have m2 := BN.frozen 2)); (try (have n3 := BN.cell 3 (v := .bool false) rfl; have m3 := BN.frozen 3)))
                | (go_at_call 60; (with_reducible refine (CDV.out _ (HL3.out.below (by first | exact hZ | exact below_up hZ (below1 _ _)))).mono ?_); rintro e wN ⟨rfl, hb'⟩; (try first | (have BN := Blk.below BN hb') | (have BN : Blk wN wc.heap.size 98 [.string ⟨#[]⟩, .string ⟨#[]⟩, .int .i64 0, .bool false] := Blk.below (Blk.new wc.drew 98 [.string ⟨#[]⟩, .string ⟨#[]⟩, .int .i64 0, .bool false]) hb'; have hg : wc.heap.size ≤ wc.heap.size := Nat.le_refl _) | (have BN := Blk.below (Blk.new _ 98 [.string ⟨#[]⟩, .string ⟨#[]⟩, .int .i64 0, .bool false]) hb'; have hg := hZ.size)); have hZ := (by first | exact below_up hZ hb' | exact below_up (below_up hZ (below1 _ _)) hb' : Below wc.heap.size wc wN); have Ba4 := (by first | exact Ba4.below hb' | exact (Ba4.alloc _).below hb' : Blk wN W.heap.size 98 [.string (numT (some a)), .string (denT (some a)), .int .i64 va, .bool true]); have Bb4 := (by first | exact Bb4.below hb' | exact (Bb4.alloc _).below hb' : Blk wN (W.heap.size + 1) 98 [.string (numT (some b)), .string (denT (some b)), .int .i64 vb, .bool false]); have Bs4 := (by first | exact Bs4.below hb' | exact (Bs4.alloc _).below hb' : Blk wN bs 100 (.slice (some ⟨gc, 0, none⟩) ls.length cc :: sp)); have a0 := Ba4.cell 0 (v := .string (numT (some a))) rfl; have a1 := Ba4.cell 1 (v := .string (denT (some a))) rfl; have b0 := Bb4.cell 0 (v := .string (numT (some b))) rfl; have b1 := Bb4.cell 1 (v := .string (denT (some b))) rfl; have s0 := Bs4.cell 0 (v := .slice (some ⟨gc, 0, none⟩) ls.length cc) rfl; have e0 := Nat.ne_of_gt (cell_lt a0); have e1 := Nat.ne_of_gt (cell_lt b0); have e2 := Nat.ne_of_gt (cell_lt s0); (try (have n0 := BN.cell 0 (v := .string ⟨#[]⟩) rfl; have m0 := BN.frozen 0)); (try (have n1 := BN.cell 1 (v := .string ⟨#[]⟩) rfl; have m1 := BN.frozen 1)); (try (have n2 := BN.cell 2 (v := .int .i64 0) rfl; have m2 := BN.frozen 2)); (try (have n3 := BN.cell 3 (v := .bool false) rfl; have m3 := BN.frozen 3)))
                | (go_at_call 59; (with_reducible refine (CAT.out _ _ (HCV.out.below (by first | exact hZ | exact below_up hZ (below1 _ _))) (HL3.out.below (by first | exact hZ | exact below_up hZ (below1 _ _)))).mono ?_); rintro e wN ⟨rfl, hb'⟩; (try first | (have BN := Blk.below BN hb') | (have BN : Blk wN wc.heap.size 98 [.string ⟨#[]⟩, .string ⟨#[]⟩, .int .i64 0, .bool false] := Blk.below (Blk.new wc.drew 98 [.string ⟨#[]⟩, .string ⟨#[]⟩, .int .i64 0, .bool false]) hb'; have hg : wc.heap.size ≤ wc.heap.size := Nat.le_refl _) | (have BN := Blk.below (Blk.new _ 98 [.string ⟨#[]⟩, .string ⟨#[]⟩, .int .i64 0, .bool false]) hb'; have hg := hZ.size)); have hZ := (by first | exact below_up hZ hb' | exact below_up (below_up hZ (below1 _ _)) hb' : Below wc.heap.size wc wN); have Ba4 := (by first | exact Ba4.below hb' | exact (Ba4.alloc _).below hb' : Blk wN W.heap.size 98 [.string (numT (some a)), .string (denT (some a)), .int .i64 va, .bool true]); have Bb4 := (by first | exact Bb4.below hb' | exact (Bb4.alloc _).below hb' : Blk wN (W.heap.size + 1) 98 [.string (numT (some b)), .string (denT (some b)), .int .i64 vb, .bool false]); have Bs4 := (by first | exact Bs4.below hb' | exact (Bs4.alloc _).below hb' : Blk wN bs 100 (.slice (some ⟨gc, 0, none⟩) ls.length cc :: sp)); have a0 := Ba4.cell 0 (v := .string (numT (some a))) rfl; have a1 := Ba4.cell 1 (v := .string (denT (some a))) rfl; have b0 := Bb4.cell 0 (v := .string (numT (some b))) rfl; have b1 := Bb4.cell 1 (v := .string (denT (some b))) rfl; have s0 := Bs4.cell 0 (v := .slice (some ⟨gc, 0, none⟩) ls.length cc) rfl; have e0 := Nat.ne_of_gt (cell_lt a0); have e1 := Nat.ne_of_gt (cell_lt b0); have e2 := Nat.ne_of_gt (cell_lt s0); (try (have n0 := BN.cell 0 (v := .string ⟨#[]⟩) rfl; have m0 := BN.frozen 0)); (try (have n1 := BN.cell 1 (v := .string ⟨#[]⟩) rfl; have m1 := BN.frozen 1)); (try (have n2 := BN.cell 2 (v := .int .i64 0) rfl; have m2 := BN.frozen 2)); (try (have n3 := BN.cell 3 (v := .bool false) rfl; have m3 := BN.frozen 3))))
              all_goals go_wp2_with fail
              all_goals go_meet
              all_goals unfold BoxOut
              all_goals first
                | (with_reducible exact ⟨_, hZ.size, rfl, Blk.new _ _ _, below_up hZ (below1 _ _)⟩)
                | (refine ⟨_, hg, rfl, (((BN.set 0 (.string (numT (some m)))).set 1 (.string (denT (some m)))).set 2 (.int .i64 vm)).set 3 (.bool rm), ?_⟩; exact (((hZ.setCell hg _).setCell hg _).setCell hg _).setCell hg _)
            case rest =>
              obtain ⟨g, hgc, rfl, Bg, hp⟩ := hcut
              have hBW := hB3.size
              have hbl := Bb3.lt
              have X4 := Lib.hid (HX3.out.below hp)
              have Ba5 := Ba3.below hp
              have Bb5 := Bb3.below hp
              have Be5 := Be3.below hp
              have fe := Be5.cell 0 (v := .func (.func 57) #[] #[.pointer (some ⟨bm, 0, none⟩), .pointer (some ⟨q, 0, none⟩), .pointer (some ⟨bs, 0, none⟩), .pointer (some ⟨be, 0, none⟩)]) rfl
              have a0 := Ba5.cell 0 (v := .string (numT (some a))) rfl
              have a1 := Ba5.cell 1 (v := .string (denT (some a))) rfl
              have a2 := Ba5.cell 2 (v := .int .i64 va) rfl
              have a3 := Ba5.cell 3 (v := .bool true) rfl
              have g0 := Bg.cell 0 (v := .string (numT (some m))) rfl
              have g1 := Bg.cell 1 (v := .string (denT (some m))) rfl
              have g2 := Bg.cell 2 (v := .int .i64 vm) rfl
              have g3 := Bg.cell 3 (v := .bool rm) rfl
              have HP := Lib.hid hp
              have n1 : ∀ (vs : List Value), NotI (.cells vs.toArray 98 (0, 0)) := fun vs cur e => by injection e with _ h _; exact absurd h (by decide)
              have n2 : ∀ (vs : List Value), NotI (.cells vs.toArray 108 (0, 0)) := fun vs cur e => by injection e with _ h _; exact absurd h (by decide)
              have N1 := Lib.hid n1
              have N2 := Lib.hid n2
              have q1 : W.heap.size + 1 ≠ q := by omega
              have q2 : g ≠ q := by omega
              have Q1 := Lib.hid q1
              have Q2 := Lib.hid q2
              have Q3 := Lib.hid HE.out.eq
              clear hp n1 n2 q1 q2 HL3 HCV CAD CW2 CDV CAT Bs3 s0 hBW hbl hgc
              go_wp2_with (first
                | (go_at_call 57; (with_reducible refine (I1.out _ _ X4.out).mono ?_); rintro e w5 ⟨rfl, v1, hX5, hK5⟩; have X5 := Lib.hid hX5; have K5 := Lib.hid hK5; have Bb6 := hK5 _ _ Bb5 (N1.out _) Q1.out; have Bg6 := hK5 _ _ Bg (N1.out _) Q2.out; have Be6 := hK5 _ _ Be5 (N2.out _) Q3.out; have fe6 := Blk.cell Be6 0 (v := .func (.func 57) #[] #[.pointer (some ⟨bm, 0, none⟩), .pointer (some ⟨q, 0, none⟩), .pointer (some ⟨bs, 0, none⟩), .pointer (some ⟨be, 0, none⟩)]) rfl; have b06 := Blk.cell Bb6 0 (v := .string (numT (some b))) rfl; have b16 := Blk.cell Bb6 1 (v := .string (denT (some b))) rfl; have b26 := Blk.cell Bb6 2 (v := .int .i64 vb) rfl; have b36 := Blk.cell Bb6 3 (v := .bool false) rfl; have g06 := Blk.cell Bg6 0 (v := .string (numT (some m))) rfl; have g16 := Blk.cell Bg6 1 (v := .string (denT (some m))) rfl; have g26 := Blk.cell Bg6 2 (v := .int .i64 vm) rfl; have g36 := Blk.cell Bg6 3 (v := .bool rm) rfl; clear hX5 hK5 Bb6 Bg6 Be6)
                | (go_at_call 57; (with_reducible refine (I2.out _ _ X5.out).mono ?_); rintro e w6 ⟨rfl, v2, hX6, hK6⟩; have X6 := Lib.hid hX6; have K6 := Lib.hid hK6; clear hX6 hK6))

              go_end0
              refine ⟨rfl, v2, ?_, fun k o hk hn hq => K6.out k o (K5.out k o (keep_below HP.out (keep_below hB3 hk)) hn hq) hn hq⟩
              have h9 := X6.out
              rwa [List.append_assoc] at h9
          · go_wp2_with fail
            go_cut [10] (fun s10 wx => ∃ g, wc.heap.size ≤ g ∧ BoxOut wc g 98 [.string (numT (some m)), .string (denT (some m)), .int .i64 vm, .bool rm] s10 wx)
            case first =>
              clear I1 I2
              have hZ : Below wc.heap.size wc wc.drew := (Below.refl _ _).drew
              have Ba4 := Ba3.below hZ
              have Bb4 := Bb3.below hZ
              have Bs4 := Bs3.below hZ
              have a0 := Ba4.cell 0 (v := .string (numT (some a))) rfl
              have a1 := Ba4.cell 1 (v := .string (denT (some a))) rfl
              have b0 := Bb4.cell 0 (v := .string (numT (some b))) rfl
              have b1 := Bb4.cell 1 (v := .string (denT (some b))) rfl
              have s0 := Bs4.cell 0 (v := .slice (some ⟨gc, 0, none⟩) ls.length cc) rfl
              have e0 := Nat.ne_of_gt (cell_lt a0)
              have e1 := Nat.ne_of_gt (cell_lt b0)
              have e2 := Nat.ne_of_gt (cell_lt s0)
              have d0 := Nat.ne_of_gt (Ba3.lt)
              have d1 := Nat.ne_of_gt (Bb3.lt)
              have d2 := Nat.ne_of_gt (Bs3.lt)
              have d3 := d0.symm
              have d4 := d1.symm
              have d5 := d2.symm
              go_region_held3 (fun w' => w'.cell? ⟨W.heap.size, 0, none⟩ = some (.string (numT (some a))) ∧ w'.cell? ⟨W.heap.size, 1, none⟩ = some (.string (denT (some a))) ∧ w'.cell? ⟨W.heap.size + 1, 0, none⟩ = some (.string (numT (some b))) ∧ w'.cell? ⟨W.heap.size + 1, 1, none⟩ = some (.string (denT (some b))) ∧ w'.cell? ⟨bs, 0, none⟩ = some (.slice (some ⟨gc, 0, none⟩) ls.length cc)) (go_keep) (first
                | (go_at_call 61; (with_reducible refine (CAD.out _ (HL3.out.below (by first | exact hZ | exact below_up hZ (below1 _ _)))).mono ?_); rintro e wN ⟨rfl, hb'⟩; (try first | (have BN := Blk.below BN hb') | (have BN : Blk wN wc.heap.size 98 [.string ⟨#[]⟩, .string ⟨#[]⟩, .int .i64 0, .bool false] := Blk.below (Blk.new wc.drew 98 [.string ⟨#[]⟩, .string ⟨#[]⟩, .int .i64 0, .bool false]) hb'; have hg : wc.heap.size ≤ wc.heap.size := Nat.le_refl _) | (have BN := Blk.below (Blk.new _ 98 [.string ⟨#[]⟩, .string ⟨#[]⟩, .int .i64 0, .bool false]) hb'; have hg := hZ.size)); have hZ := (by first | exact below_up hZ hb' | exact below_up (below_up hZ (below1 _ _)) hb' : Below wc.heap.size wc wN); have Ba4 := (by first | exact Ba4.below hb' | exact (Ba4.alloc _).below hb' : Blk wN W.heap.size 98 [.string (numT (some a)), .string (denT (some a)), .int .i64 va, .bool ra]); have Bb4 := (by first | exact Bb4.below hb' | exact (Bb4.alloc _).below hb' : Blk wN (W.heap.size + 1) 98 [.string (numT (some b)), .string (denT (some b)), .int .i64 vb, .bool rb]); have Bs4 := (by first | exact Bs4.below hb' | exact (Bs4.alloc _).below hb' : Blk wN bs 100 (.slice (some ⟨gc, 0, none⟩) ls.length cc :: sp)); have a0 := Ba4.cell 0 (v := .string (numT (some a))) rfl; have a1 := Ba4.cell 1 (v := .string (denT (some a))) rfl; have b0 := Bb4.cell 0 (v := .string (numT (some b))) rfl; have b1 := Bb4.cell 1 (v := .string (denT (some b))) rfl; have s0 := Bs4.cell 0 (v := .slice (some ⟨gc, 0, none⟩) ls.length cc) rfl; have e0 := Nat.ne_of_gt (cell_lt a0); have e1 := Nat.ne_of_gt (cell_lt b0); have e2 := Nat.ne_of_gt (cell_lt s0); (try (have n0 := BN.cell 0 (v := .string ⟨#[]⟩) rfl; have m0 := BN.frozen 0)); (try (have n1 := BN.cell 1 (v := .string ⟨#[]⟩) rfl; have m1 := BN.frozen 1)); (try (have n2 := BN.cell 2 (v := .int .i64 0) rfl; have m2 := BN.frozen 2)); (try (have n3 := BN.cell 3 (v := .bool false) rfl; have m3 := BN.frozen 3)))
                | (go_at_call 62; (with_reducible refine (CW2.out _ (HL3.out.below (by first | exact hZ | exact below_up hZ (below1 _ _)))).mono ?_); rintro e wN ⟨rfl, hb'⟩; (try first | (have BN := Blk.below BN hb') | (have BN : Blk wN wc.heap.size 98 [.string ⟨#[]⟩, .string ⟨#[]⟩, .int .i64 0, .bool false] := Blk.below (Blk.new wc.drew 98 [.string ⟨#[]⟩, .string ⟨#[]⟩, .int .i64 0, .bool false]) hb'; have hg : wc.heap.size ≤ wc.heap.size := Nat.le_refl _) | (have BN := Blk.below (Blk.new _ 98 [.string ⟨#[]⟩, .string ⟨#[]⟩, .int .i64 0, .bool false]) hb'; have hg := hZ.size)); have hZ := (by first | exact below_up hZ hb' | exact below_up (below_up hZ (below1 _ _)) hb' : Below wc.heap.size wc wN); have Ba4 := (by first | exact Ba4.below hb' | exact (Ba4.alloc _).below hb' : Blk wN W.heap.size 98 [.string (numT (some a)), .string (denT (some a)), .int .i64 va, .bool ra]); have Bb4 := (by first | exact Bb4.below hb' | exact (Bb4.alloc _).below hb' : Blk wN (W.heap.size + 1) 98 [.string (numT (some b)), .string (denT (some b)), .int .i64 vb, .bool rb]); have Bs4 := (by first | exact Bs4.below hb' | exact (Bs4.alloc _).below hb' : Blk wN bs 100 (.slice (some ⟨gc, 0, none⟩) ls.length cc :: sp)); have a0 := Ba4.cell 0 (v := .string (numT (some a))) rfl; have a1 := Ba4.cell 1 (v := .string (denT (some a))) rfl; have b0 := Bb4.cell 0 (v := .string (numT (some b))) rfl; have b1 := Bb4.cell 1 (v := .string (denT (some b))) rfl; have s0 := Bs4.cell 0 (v := .slice (some ⟨gc, 0, none⟩) ls.length cc) rfl; have e0 := Nat.ne_of_gt (cell_lt a0); have e1 := Nat.ne_of_gt (cell_lt b0); have e2 := Nat.ne_of_gt (cell_lt s0); (try (have n0 := BN.cell 0 (v := .string ⟨#[]⟩) rfl; have m0 := BN.frozen 0)); (try (have n1 := BN.cell 1 (v := .string ⟨#[]⟩) rfl; have m1 := BN.frozen 1)); (try (have n2 := BN.cell 2 (v := .int .i64 0) rfl; have m2 := BN.frozen 2)); (try (have n3 := BN.cell 3 (v := .bool false) rfl; have m3 := BN.frozen 3)))
                | (go_at_call 60; (with_reducible refine (CDV.out _ (HL3.out.below (by first | exact hZ | exact below_up hZ (below1 _ _)))).mono ?_); rintro e wN ⟨rfl, hb'⟩; (try first | (have BN := Blk.below BN hb') | (have BN : Blk wN wc.heap.size 98 [.string ⟨#[]⟩, .string ⟨#[]⟩, .int .i64 0, .bool false] := Blk.below (Blk.new wc.drew 98 [.string ⟨#[]⟩, .string ⟨#[]⟩, .int .i64 0, .bool false]) hb'; have hg : wc.heap.size ≤ wc.heap.size := Nat.le_refl _) | (have BN := Blk.below (Blk.new _ 98 [.string ⟨#[]⟩, .string ⟨#[]⟩, .int .i64 0, .bool false]) hb'; have hg := hZ.size)); have hZ := (by first | exact below_up hZ hb' | exact below_up (below_up hZ (below1 _ _)) hb' : Below wc.heap.size wc wN); have Ba4 := (by first | exact Ba4.below hb' | exact (Ba4.alloc _).below hb' : Blk wN W.heap.size 98 [.string (numT (some a)), .string (denT (some a)), .int .i64 va, .bool ra]); have Bb4 := (by first | exact Bb4.below hb' | exact (Bb4.alloc _).below hb' : Blk wN (W.heap.size + 1) 98 [.string (numT (some b)), .string (denT (some b)), .int .i64 vb, .bool rb]); have Bs4 := (by first | exact Bs4.below hb' | exact (Bs4.alloc _).below hb' : Blk wN bs 100 (.slice (some ⟨gc, 0, none⟩) ls.length cc :: sp)); have a0 := Ba4.cell 0 (v := .string (numT (some a))) rfl; have a1 := Ba4.cell 1 (v := .string (denT (some a))) rfl; have b0 := Bb4.cell 0 (v := .string (numT (some b))) rfl; have b1 := Bb4.cell 1 (v := .string (denT (some b))) rfl; have s0 := Bs4.cell 0 (v := .slice (some ⟨gc, 0, none⟩) ls.length cc) rfl; have e0 := Nat.ne_of_gt (cell_lt a0); have e1 := Nat.ne_of_gt (cell_lt b0); have e2 := Nat.ne_of_gt (cell_lt s0); (try (have n0 := BN.cell 0 (v := .string ⟨#[]⟩) rfl; have m0 := BN.frozen 0)); (try (have n1 := BN.cell 1 (v := .string ⟨#[]⟩) rfl; have m1 := BN.frozen 1)); (try (have n2 := BN.cell 2 (v := .int .i64 0) rfl; have m2 := BN.frozen 2)); (try (have n3 := BN.cell 3 (v := .bool false) rfl; have m3 := BN.frozen 3)))
                | (go_at_call 59; (with_reducible refine (CAT.out _ _ (HCV.out.below (by first | exact hZ | exact below_up hZ (below1 _ _))) (HL3.out.below (by first | exact hZ | exact below_up hZ (below1 _ _)))).mono ?_); rintro e wN ⟨rfl, hb'⟩; (try first | (have BN := Blk.below BN hb') | (have BN : Blk wN wc.heap.size 98 [.string ⟨#[]⟩, .string ⟨#[]⟩, .int .i64 0, .bool false] := Blk.below (Blk.new wc.drew 98 [.string ⟨#[]⟩, .string ⟨#[]⟩, .int .i64 0, .bool false]) hb'; have hg : wc.heap.size ≤ wc.heap.size := Nat.le_refl _) | (have BN := Blk.below (Blk.new _ 98 [.string ⟨#[]⟩, .string ⟨#[]⟩, .int .i64 0, .bool false]) hb'; have hg := hZ.size)); have hZ := (by first | exact below_up hZ hb' | exact below_up (below_up hZ (below1 _ _)) hb' : Below wc.heap.size wc wN); have Ba4 := (by first | exact Ba4.below hb' | exact (Ba4.alloc _).below hb' : Blk wN W.heap.size 98 [.string (numT (some a)), .string (denT (some a)), .int .i64 va, .bool ra]); have Bb4 := (by first | exact Bb4.below hb' | exact (Bb4.alloc _).below hb' : Blk wN (W.heap.size + 1) 98 [.string (numT (some b)), .string (denT (some b)), .int .i64 vb, .bool rb]); have Bs4 := (by first | exact Bs4.below hb' | exact (Bs4.alloc _).below hb' : Blk wN bs 100 (.slice (some ⟨gc, 0, none⟩) ls.length cc :: sp)); have a0 := Ba4.cell 0 (v := .string (numT (some a))) rfl; have a1 := Ba4.cell 1 (v := .string (denT (some a))) rfl; have b0 := Bb4.cell 0 (v := .string (numT (some b))) rfl; have b1 := Bb4.cell 1 (v := .string (denT (some b))) rfl; have s0 := Bs4.cell 0 (v := .slice (some ⟨gc, 0, none⟩) ls.length cc) rfl; have e0 := Nat.ne_of_gt (cell_lt a0); have e1 := Nat.ne_of_gt (cell_lt b0); have e2 := Nat.ne_of_gt (cell_lt s0); (try (have n0 := BN.cell 0 (v := .string ⟨#[]⟩) rfl; have m0 := BN.frozen 0)); (try (have n1 := BN.cell 1 (v := .string ⟨#[]⟩) rfl; have m1 := BN.frozen 1)); (try (have n2 := BN.cell 2 (v := .int .i64 0) rfl; have m2 := BN.frozen 2)); (try (have n3 := BN.cell 3 (v := .bool false) rfl; have m3 := BN.frozen 3))))
              all_goals go_wp2_with fail
              all_goals go_meet
              all_goals unfold BoxOut
              all_goals first
                | (with_reducible exact ⟨_, hZ.size, rfl, Blk.new _ _ _, below_up hZ (below1 _ _)⟩)
                | (refine ⟨_, hg, rfl, (((BN.set 0 (.string (numT (some m)))).set 1 (.string (denT (some m)))).set 2 (.int .i64 vm)).set 3 (.bool rm), ?_⟩; exact (((hZ.setCell hg _).setCell hg _).setCell hg _).setCell hg _)
            case rest =>
              obtain ⟨g, hgc, rfl, Bg, hp⟩ := hcut
              have hBW := hB3.size
              have hbl := Bb3.lt
              have X4 := Lib.hid (HX3.out.below hp)
              have Ba5 := Ba3.below hp
              have Bb5 := Bb3.below hp
              have Be5 := Be3.below hp
              have fe := Be5.cell 0 (v := .func (.func 57) #[] #[.pointer (some ⟨bm, 0, none⟩), .pointer (some ⟨q, 0, none⟩), .pointer (some ⟨bs, 0, none⟩), .pointer (some ⟨be, 0, none⟩)]) rfl
              have a0 := Ba5.cell 0 (v := .string (numT (some a))) rfl
              have a1 := Ba5.cell 1 (v := .string (denT (some a))) rfl
              have a2 := Ba5.cell 2 (v := .int .i64 va) rfl
              have a3 := Ba5.cell 3 (v := .bool ra) rfl
              have g0 := Bg.cell 0 (v := .string (numT (some m))) rfl
              have g1 := Bg.cell 1 (v := .string (denT (some m))) rfl
              have g2 := Bg.cell 2 (v := .int .i64 vm) rfl
              have g3 := Bg.cell 3 (v := .bool rm) rfl
              have HP := Lib.hid hp
              have n1 : ∀ (vs : List Value), NotI (.cells vs.toArray 98 (0, 0)) := fun vs cur e => by injection e with _ h _; exact absurd h (by decide)
              have n2 : ∀ (vs : List Value), NotI (.cells vs.toArray 108 (0, 0)) := fun vs cur e => by injection e with _ h _; exact absurd h (by decide)
              have N1 := Lib.hid n1
              have N2 := Lib.hid n2
              have q1 : W.heap.size + 1 ≠ q := by omega
              have q2 : g ≠ q := by omega
              have Q1 := Lib.hid q1
              have Q2 := Lib.hid q2
              have Q3 := Lib.hid HE.out.eq
              clear hp n1 n2 q1 q2 HL3 HCV CAD CW2 CDV CAT Bs3 s0 hBW hbl hgc
              go_wp2_with (first
                | (go_at_call 57; (with_reducible refine (I1.out _ _ X4.out).mono ?_); rintro e w5 ⟨rfl, v1, hX5, hK5⟩; have X5 := Lib.hid hX5; have K5 := Lib.hid hK5; have Bb6 := hK5 _ _ Bb5 (N1.out _) Q1.out; have Bg6 := hK5 _ _ Bg (N1.out _) Q2.out; have Be6 := hK5 _ _ Be5 (N2.out _) Q3.out; have fe6 := Blk.cell Be6 0 (v := .func (.func 57) #[] #[.pointer (some ⟨bm, 0, none⟩), .pointer (some ⟨q, 0, none⟩), .pointer (some ⟨bs, 0, none⟩), .pointer (some ⟨be, 0, none⟩)]) rfl; have b06 := Blk.cell Bb6 0 (v := .string (numT (some b))) rfl; have b16 := Blk.cell Bb6 1 (v := .string (denT (some b))) rfl; have b26 := Blk.cell Bb6 2 (v := .int .i64 vb) rfl; have b36 := Blk.cell Bb6 3 (v := .bool rb) rfl; have g06 := Blk.cell Bg6 0 (v := .string (numT (some m))) rfl; have g16 := Blk.cell Bg6 1 (v := .string (denT (some m))) rfl; have g26 := Blk.cell Bg6 2 (v := .int .i64 vm) rfl; have g36 := Blk.cell Bg6 3 (v := .bool rm) rfl; clear hX5 hK5 Bb6 Bg6 Be6)
                | (go_at_call 57; (with_reducible refine (I2.out _ _ X5.out).mono ?_); rintro e w6 ⟨rfl, v2, hX6, hK6⟩; have X6 := Lib.hid hX6; have K6 := Lib.hid hK6; clear hX6 hK6))

              go_end0
              refine ⟨rfl, v2, ?_, fun k o hk hn hq => K6.out k o (K5.out k o (keep_below HP.out (keep_below hB3 hk)) hn hq) hn hq⟩
              have h9 := X6.out
              rwa [List.append_assoc] at h9

end Go.Proofs.YtffndcjmabjhiaaGreatDoor
