/- The walk of workpiecelaw07's sane, over contracts. Conditions: none. -/
import Derived.Test.YtffndcjmabjhiaaGreatDoorM21
import Derived.Test.YtffndcjmabjhiaaGreatDoorM6
import Derived.Test.YtffndcjmabjhiaaGreatDoorM8
namespace Go.Proofs.YtffndcjmabjhiaaGreatDoor
open Go.RowKit Num
open Go.Shelf

set_option maxHeartbeats 8000000 in
set_option maxRecDepth 100000 in
theorem sane_walk {q0 q2 r2 q1 r1 qa qb qc : Rat} {pA pB pC pD pE pF pG pH pI pJ pK pL pM pN pO pP : List Rat}
    (of_q0 : ∀ (w : World), Calls Tryz.prog 14 #[.int .i64 0, .int .i64 1] w (RetR w q0))
    (of_q2 : ∀ (w : World), Calls Tryz.prog 14 #[.int .i64 2, .int .i64 1] w (RetR w q2))
    (of_r2 : ∀ (w : World), Calls Tryz.prog 14 #[.int .i64 (-2), .int .i64 1] w (RetR w r2))
    (of_q1 : ∀ (w : World), Calls Tryz.prog 14 #[.int .i64 1, .int .i64 1] w (RetR w q1))
    (of_r1 : ∀ (w : World), Calls Tryz.prog 14 #[.int .i64 (-1), .int .i64 1] w (RetR w r1))
    (of_qa : ∀ (w : World), Calls Tryz.prog 14 #[.int .i64 11, .int .i64 8] w (RetR w qa))
    (of_qb : ∀ (w : World), Calls Tryz.prog 14 #[.int .i64 23, .int .i64 16] w (RetR w qb))
    (of_qc : ∀ (w : World), Calls Tryz.prog 14 #[.int .i64 17, .int .i64 1] w (RetR w qc))
    (in_A : ∀ (w : World), Calls Tryz.prog 45 #[.slice (some ⟨w.heap.size, 0, none⟩) 2 2] (w.alloc (.cells #[.int .i64 1, .int .i64 1] 3)) (RetIn w pA))
    (in_B : ∀ (w : World), Calls Tryz.prog 45 #[.slice (some ⟨w.heap.size, 0, none⟩) 2 2] (w.alloc (.cells #[.int .i64 1, .int .i64 (-1)] 3)) (RetIn w pB))
    (in_C : ∀ (w : World), Calls Tryz.prog 45 #[.slice (some ⟨w.heap.size, 0, none⟩) 3 3] (w.alloc (.cells #[.int .i64 (-1), .int .i64 0, .int .i64 1] 3)) (RetIn w pC))
    (in_D : ∀ (w : World), Calls Tryz.prog 45 #[.slice (some ⟨w.heap.size, 0, none⟩) 2 2] (w.alloc (.cells #[.int .i64 (-2), .int .i64 1] 3)) (RetIn w pD))
    (in_E : ∀ (w : World), Calls Tryz.prog 45 #[.slice (some ⟨w.heap.size, 0, none⟩) 2 2] (w.alloc (.cells #[.int .i64 (-2), .int .i64 2] 3)) (RetIn w pE))
    (in_F : ∀ (w : World), Calls Tryz.prog 45 #[.slice (some ⟨w.heap.size, 0, none⟩) 4 4] (w.alloc (.cells #[.int .i64 0, .int .i64 0, .int .i64 0, .int .i64 1] 3)) (RetIn w pF))
    (in_G : ∀ (w : World), Calls Tryz.prog 45 #[.slice (some ⟨w.heap.size, 0, none⟩) 3 3] (w.alloc (.cells #[.int .i64 (-2), .int .i64 0, .int .i64 1] 3)) (RetIn w pG))
    (in_H : ∀ (w : World), Calls Tryz.prog 45 #[.slice (some ⟨w.heap.size, 0, none⟩) 4 4] (w.alloc (.cells #[.int .i64 (-1), .int .i64 3, .int .i64 (-3), .int .i64 1] 3)) (RetIn w pH))
    (in_I : ∀ (w : World), Calls Tryz.prog 45 #[.slice (some ⟨w.heap.size, 0, none⟩) 3 3] (w.alloc (.cells #[.int .i64 0, .int .i64 (-1), .int .i64 1] 3)) (RetIn w pI))
    (in_J : ∀ (w : World), Calls Tryz.prog 45 #[.slice (some ⟨w.heap.size, 0, none⟩) 3 3] (w.alloc (.cells #[.int .i64 1, .int .i64 2, .int .i64 3] 3)) (RetIn w pJ))
    (in_K : ∀ (w : World), Calls Tryz.prog 45 #[.slice (some ⟨w.heap.size, 0, none⟩) 3 3] (w.alloc (.cells #[.int .i64 1, .int .i64 0, .int .i64 (-1)] 3)) (RetIn w pK))
    (in_L : ∀ (w : World), Calls Tryz.prog 45 #[.slice (some ⟨w.heap.size, 0, none⟩) 2 2] (w.alloc (.cells #[.int .i64 2, .int .i64 1] 3)) (RetIn w pL))
    (in_M : ∀ (w : World), Calls Tryz.prog 45 #[.slice (some ⟨w.heap.size, 0, none⟩) 1 1] (w.alloc (.cells #[.int .i64 3] 3)) (RetIn w pM))
    (in_N : ∀ (w : World), Calls Tryz.prog 45 #[.slice (some ⟨w.heap.size, 0, none⟩) 2 2] (w.alloc (.cells #[.int .i64 (-1), .int .i64 1] 3)) (RetIn w pN))
    (in_O : ∀ (w : World), Calls Tryz.prog 45 #[.slice (some ⟨w.heap.size, 0, none⟩) 3 3] (w.alloc (.cells #[.int .i64 0, .int .i64 0, .int .i64 3] 3)) (RetIn w pO))
    (in_P : ∀ (w : World), Calls Tryz.prog 45 #[.slice (some ⟨w.heap.size, 0, none⟩) 2 2] (w.alloc (.cells #[.int .i64 1, .int .i64 0] 3)) (RetIn w pP))
    (c_mul : ∀ (w : World) (v u : Value), Pv w v pA → Pv w u pB → Laid w → Calls Tryz.prog 44 #[v, u] w (RetLE w pK))
    (c_div : ∀ (w : World) (v u : Value), Pv w v pC → Pv w u pD → Laid w → Calls Tryz.prog 21 #[v, u] w (RetL2 w pL pM))
    (c_gcd : ∀ (w : World) (v u : Value), Pv w v pC → Pv w u pE → Laid w → Calls Tryz.prog 20 #[v, u] w (RetLE w pN))
    (c_der : ∀ (w : World) (v : Value), Pv w v pF → Laid w → Calls Tryz.prog 19 #[v] w (RetLE w pO))
    (c_n1 : ∀ (w : World) (v : Value), Pv w v pG → Laid w → Calls Tryz.prog 15 #[v, .agg #[.string (numT (some q0)), .string (denT (some q0))], .agg #[.string (numT (some q2)), .string (denT (some q2))]] w (RetT2 w (.int .i64 1) 0))
    (c_n2 : ∀ (w : World) (v : Value), Pv w v pG → Laid w → Calls Tryz.prog 15 #[v, .agg #[.string (numT (some r2)), .string (denT (some r2))], .agg #[.string (numT (some q2)), .string (denT (some q2))]] w (RetT2 w (.int .i64 2) 0))
    (c_n3 : ∀ (w : World) (v : Value), Pv w v pH → Laid w → Calls Tryz.prog 15 #[v, .agg #[.string (numT (some q0)), .string (denT (some q0))], .agg #[.string (numT (some q1)), .string (denT (some q1))]] w (RetT2 w (.int .i64 1) 0))
    (c_nf : ∀ (w : World), Laid w → Calls Tryz.prog 15 #[.slice none 0 0, .agg #[.string (numT (some q0)), .string (denT (some q0))], .agg #[.string (numT (some q1)), .string (denT (some q1))]] w (RetT2 w (.int .i64 0) 70))
    (c_i1 : ∀ (w : World) (v : Value), Pv w v pG → Laid w → Calls Tryz.prog 16 #[v, .agg #[.string (numT (some q0)), .string (denT (some q0))], .agg #[.string (numT (some q2)), .string (denT (some q2))], .int .i64 1] w (RetCl w 1 [.string (numT (some qa)), .string (denT (some qa)), .string (numT (some qb)), .string (denT (some qb))]))
    (c_i2 : ∀ (w : World) (v : Value), Pv w v pI → Laid w → Calls Tryz.prog 16 #[v, .agg #[.string (numT (some r1)), .string (denT (some r1))], .agg #[.string (numT (some q1)), .string (denT (some q1))], .int .i64 0] w (RetCl w 2 [.string (numT (some q0)), .string (denT (some q0)), .string (numT (some q0)), .string (denT (some q0)), .string (numT (some q1)), .string (denT (some q1)), .string (numT (some q1)), .string (denT (some q1))]))
    (c_ev : ∀ (w : World) (v : Value), Pv w v pJ → Laid w → Calls Tryz.prog 22 #[v, .agg #[.string (numT (some q2)), .string (denT (some q2))]] w (RetQk w (some qc) 0))
    (c_same : ∀ (p : List Rat) (w : World) (v u : Value), Pv w v p → Pv w u p → Calls Tryz.prog 46 #[v, u] w (RetB w true))
    (c_v0 : ∀ (w : World), Laid w → Calls Tryz.prog 43 #[.slice none 0 0] w (RetB w true))
    (c_v1 : ∀ (w : World) (v : Value), Pv w v pP → Laid w → Calls Tryz.prog 43 #[v] w (RetB w false))
    (w : World) (hL : Laid w) : Calls Tryz.prog 11 #[] w (RetB w true) := by
  replace of_q0 := Lib.hid of_q0
  replace of_q2 := Lib.hid of_q2
  replace of_r2 := Lib.hid of_r2
  replace of_q1 := Lib.hid of_q1
  replace of_r1 := Lib.hid of_r1
  replace of_qa := Lib.hid of_qa
  replace of_qb := Lib.hid of_qb
  replace of_qc := Lib.hid of_qc
  replace in_A := Lib.hid in_A
  replace in_B := Lib.hid in_B
  replace in_C := Lib.hid in_C
  replace in_D := Lib.hid in_D
  replace in_E := Lib.hid in_E
  replace in_F := Lib.hid in_F
  replace in_G := Lib.hid in_G
  replace in_H := Lib.hid in_H
  replace in_I := Lib.hid in_I
  replace in_J := Lib.hid in_J
  replace in_K := Lib.hid in_K
  replace in_L := Lib.hid in_L
  replace in_M := Lib.hid in_M
  replace in_N := Lib.hid in_N
  replace in_O := Lib.hid in_O
  replace in_P := Lib.hid in_P
  replace c_mul := Lib.hid c_mul
  replace c_div := Lib.hid c_div
  replace c_gcd := Lib.hid c_gcd
  replace c_der := Lib.hid c_der
  replace c_n1 := Lib.hid c_n1
  replace c_n2 := Lib.hid c_n2
  replace c_n3 := Lib.hid c_n3
  replace c_nf := Lib.hid c_nf
  replace c_i1 := Lib.hid c_i1
  replace c_i2 := Lib.hid c_i2
  replace c_ev := Lib.hid c_ev
  replace c_same := Lib.hid c_same
  replace c_v0 := Lib.hid c_v0
  replace c_v1 := Lib.hid c_v1
  have HL0 := Lib.hid hL
  have low : Below w.heap.size w w := Below.refl _ _
  have hmixed : Tryz.prog.follows .mixedOrders = true := by kernel_rfl
  clear hL
  have HL1 := HL0
  go_enter Tryz.func11, Tryz.ntmps11
  go_upto_region 1 with fail
  go_cut [1, 2] (fun s1 s2 wx => Below w.heap.size w wx ∧ s2 = .int .i64 0 ∧ Pv wx s1 pK)
  case first => as_aux_lemma =>
    have lo : Below w.heap.size w w := Below.refl _ _
    clear low
    go_wp2_with (first
      | (go_at_call 45; (with_reducible refine (in_A.out _).mono ?_); rintro e W1 ⟨xA, rfl, hn, hb⟩; replace lo := below_up lo hb; have hA := hn; clear hn; clear hb)
      | (go_at_call 45; (with_reducible refine (in_B.out _).mono ?_); rintro e W1 ⟨xB, rfl, hn, hb⟩; replace lo := below_up lo hb; replace hA := Pv.below hA hb; have hB := hn; clear hn; clear hb)
      | (go_at_call 44; (with_reducible refine (c_mul.out _ _ _ hA hB (HL1.out.below lo)).mono ?_); rintro e W1 ⟨va, rfl, hn, hb⟩; replace lo := below_up lo hb; clear hb))
    go_meet
    exact ⟨lo, rfl, hn⟩
  case rest =>
    obtain ⟨hp, rfl, hra⟩ := hcut
    replace low := below_up low hp
    have HL1 := Lib.hid (HL0.out.below low)
    clear hp
    go_upto_region 2 with fail
    go_cut [3, 4, 5] (fun s3 s4 s5 wx => Below wc.heap.size wc wx ∧ s5 = .int .i64 0 ∧ Pv wx s3 pL ∧ Pv wx s4 pM)
    case first => as_aux_lemma =>
      have lo : Below wc.heap.size wc wc := Below.refl _ _
      clear low
      go_wp2_with (first
        | (go_at_call 45; (with_reducible refine (in_C.out _).mono ?_); rintro e W1 ⟨xC, rfl, hn, hb⟩; replace lo := below_up lo hb; have hC := hn; clear hn; clear hb)
        | (go_at_call 45; (with_reducible refine (in_D.out _).mono ?_); rintro e W1 ⟨xD, rfl, hn, hb⟩; replace lo := below_up lo hb; replace hC := Pv.below hC hb; have hD := hn; clear hn; clear hb)
        | (go_at_call 21; (with_reducible refine (c_div.out _ _ _ hC hD (HL1.out.below lo)).mono ?_); rintro e W1 ⟨vq, vr, rfl, hn, hn2, hb⟩; replace lo := below_up lo hb; clear hb))
      go_meet
      exact ⟨lo, rfl, hn, hn2⟩
    case rest =>
      obtain ⟨hp, rfl, hrq, hrr⟩ := hcut
      replace low := below_up low hp
      have HL1 := Lib.hid (HL0.out.below low)
      replace hra := Pv.below hra hp
      clear hp
      go_upto_region 3 with fail
      go_cut [6, 7] (fun s6 s7 wx => Below wc.heap.size wc wx ∧ s7 = .int .i64 0 ∧ Pv wx s6 pN)
      case first => as_aux_lemma =>
        have lo : Below wc.heap.size wc wc := Below.refl _ _
        clear low
        go_wp2_with (first
          | (go_at_call 45; (with_reducible refine (in_C.out _).mono ?_); rintro e W1 ⟨xC, rfl, hn, hb⟩; replace lo := below_up lo hb; have hC := hn; clear hn; clear hb)
          | (go_at_call 45; (with_reducible refine (in_E.out _).mono ?_); rintro e W1 ⟨xE, rfl, hn, hb⟩; replace lo := below_up lo hb; replace hC := Pv.below hC hb; have hE := hn; clear hn; clear hb)
          | (go_at_call 20; (with_reducible refine (c_gcd.out _ _ _ hC hE (HL1.out.below lo)).mono ?_); rintro e W1 ⟨vg, rfl, hn, hb⟩; replace lo := below_up lo hb; clear hb))
        go_meet
        exact ⟨lo, rfl, hn⟩
      case rest =>
        obtain ⟨hp, rfl, hrg⟩ := hcut
        replace low := below_up low hp
        have HL1 := Lib.hid (HL0.out.below low)
        replace hra := Pv.below hra hp
        replace hrq := Pv.below hrq hp
        replace hrr := Pv.below hrr hp
        clear hp
        go_upto_region 4 with fail
        go_cut [8, 9] (fun s8 s9 wx => Below wc.heap.size wc wx ∧ s9 = .int .i64 0 ∧ Pv wx s8 pO)
        case first => as_aux_lemma =>
          have lo : Below wc.heap.size wc wc := Below.refl _ _
          clear low
          go_wp2_with (first
            | (go_at_call 45; (with_reducible refine (in_F.out _).mono ?_); rintro e W1 ⟨xF, rfl, hn, hb⟩; replace lo := below_up lo hb; have hF := hn; clear hn; clear hb)
            | (go_at_call 19; (with_reducible refine (c_der.out _ _ hF (HL1.out.below lo)).mono ?_); rintro e W1 ⟨vd, rfl, hn, hb⟩; replace lo := below_up lo hb; clear hb))
          go_meet
          exact ⟨lo, rfl, hn⟩
        case rest =>
          obtain ⟨hp, rfl, hrd⟩ := hcut
          replace low := below_up low hp
          have HL1 := Lib.hid (HL0.out.below low)
          replace hra := Pv.below hra hp
          replace hrq := Pv.below hrq hp
          replace hrr := Pv.below hrr hp
          replace hrg := Pv.below hrg hp
          clear hp
          go_upto_region 5 with fail
          go_cut [10, 11] (fun s10 s11 wx => Below wc.heap.size wc wx ∧ s10 = .int .i64 1 ∧ s11 = .int .i64 0)
          case first => as_aux_lemma =>
            have lo : Below wc.heap.size wc wc := Below.refl _ _
            clear low
            go_wp2_with (first
              | (go_at_call 45; (with_reducible refine (in_G.out _).mono ?_); rintro e W1 ⟨xG, rfl, hn, hb⟩; replace lo := below_up lo hb; have hG := hn; clear hn; clear hb)
              | (go_at_call 14; (with_reducible refine (of_q0.out _).mono ?_); rintro e W1 ⟨rfl, hb⟩; replace lo := below_up lo hb; replace hG := Pv.below hG hb; clear hb)
              | (go_at_call 14; (with_reducible refine (of_q2.out _).mono ?_); rintro e W1 ⟨rfl, hb⟩; replace lo := below_up lo hb; replace hG := Pv.below hG hb; clear hb)
              | (go_at_call 15; (with_reducible refine (c_n1.out _ _ hG (HL1.out.below lo)).mono ?_); rintro e W1 ⟨rfl, hb⟩; replace lo := below_up lo hb; clear hb))
            go_meet
            exact ⟨lo, rfl, rfl⟩
          case rest =>
            obtain ⟨hp, rfl, rfl⟩ := hcut
            replace low := below_up low hp
            have HL1 := Lib.hid (HL0.out.below low)
            replace hra := Pv.below hra hp
            replace hrq := Pv.below hrq hp
            replace hrr := Pv.below hrr hp
            replace hrg := Pv.below hrg hp
            replace hrd := Pv.below hrd hp
            clear hp
            go_upto_region 6 with fail
            go_cut [12, 13] (fun s12 s13 wx => Below wc.heap.size wc wx ∧ s12 = .int .i64 2 ∧ s13 = .int .i64 0)
            case first => as_aux_lemma =>
              have lo : Below wc.heap.size wc wc := Below.refl _ _
              clear low
              go_wp2_with (first
                | (go_at_call 45; (with_reducible refine (in_G.out _).mono ?_); rintro e W1 ⟨xG, rfl, hn, hb⟩; replace lo := below_up lo hb; have hG := hn; clear hn; clear hb)
                | (go_at_call 14; (with_reducible refine (of_r2.out _).mono ?_); rintro e W1 ⟨rfl, hb⟩; replace lo := below_up lo hb; replace hG := Pv.below hG hb; clear hb)
                | (go_at_call 14; (with_reducible refine (of_q2.out _).mono ?_); rintro e W1 ⟨rfl, hb⟩; replace lo := below_up lo hb; replace hG := Pv.below hG hb; clear hb)
                | (go_at_call 15; (with_reducible refine (c_n2.out _ _ hG (HL1.out.below lo)).mono ?_); rintro e W1 ⟨rfl, hb⟩; replace lo := below_up lo hb; clear hb))
              go_meet
              exact ⟨lo, rfl, rfl⟩
            case rest =>
              obtain ⟨hp, rfl, rfl⟩ := hcut
              replace low := below_up low hp
              have HL1 := Lib.hid (HL0.out.below low)
              replace hra := Pv.below hra hp
              replace hrq := Pv.below hrq hp
              replace hrr := Pv.below hrr hp
              replace hrg := Pv.below hrg hp
              replace hrd := Pv.below hrd hp
              clear hp
              go_upto_region 7 with fail
              go_cut [14, 15] (fun s14 s15 wx => Below wc.heap.size wc wx ∧ s14 = .int .i64 1 ∧ s15 = .int .i64 0)
              case first => as_aux_lemma =>
                have lo : Below wc.heap.size wc wc := Below.refl _ _
                clear low
                go_wp2_with (first
                  | (go_at_call 45; (with_reducible refine (in_H.out _).mono ?_); rintro e W1 ⟨xH, rfl, hn, hb⟩; replace lo := below_up lo hb; have hH := hn; clear hn; clear hb)
                  | (go_at_call 14; (with_reducible refine (of_q0.out _).mono ?_); rintro e W1 ⟨rfl, hb⟩; replace lo := below_up lo hb; replace hH := Pv.below hH hb; clear hb)
                  | (go_at_call 14; (with_reducible refine (of_q1.out _).mono ?_); rintro e W1 ⟨rfl, hb⟩; replace lo := below_up lo hb; replace hH := Pv.below hH hb; clear hb)
                  | (go_at_call 15; (with_reducible refine (c_n3.out _ _ hH (HL1.out.below lo)).mono ?_); rintro e W1 ⟨rfl, hb⟩; replace lo := below_up lo hb; clear hb))
                go_meet
                exact ⟨lo, rfl, rfl⟩
              case rest =>
                obtain ⟨hp, rfl, rfl⟩ := hcut
                replace low := below_up low hp
                have HL1 := Lib.hid (HL0.out.below low)
                replace hra := Pv.below hra hp
                replace hrq := Pv.below hrq hp
                replace hrr := Pv.below hrr hp
                replace hrg := Pv.below hrg hp
                replace hrd := Pv.below hrd hp
                clear hp
                go_upto_region 8 with fail
                go_cut [16, 17] (fun s16 s17 wx => Below wc.heap.size wc wx ∧ ∃ g1 n1, s16 = .slice (some ⟨g1, 0, none⟩) 1 n1 ∧ s17 = .int .i64 0 ∧ Cl wx g1 [.string (numT (some qa)), .string (denT (some qa)), .string (numT (some qb)), .string (denT (some qb))])
                case first => as_aux_lemma =>
                  have lo : Below wc.heap.size wc wc := Below.refl _ _
                  clear low
                  go_wp2_with (first
                    | (go_at_call 45; (with_reducible refine (in_G.out _).mono ?_); rintro e W1 ⟨xG, rfl, hn, hb⟩; replace lo := below_up lo hb; have hG := hn; clear hn; clear hb)
                    | (go_at_call 14; (with_reducible refine (of_q0.out _).mono ?_); rintro e W1 ⟨rfl, hb⟩; replace lo := below_up lo hb; replace hG := Pv.below hG hb; clear hb)
                    | (go_at_call 14; (with_reducible refine (of_q2.out _).mono ?_); rintro e W1 ⟨rfl, hb⟩; replace lo := below_up lo hb; replace hG := Pv.below hG hb; clear hb)
                    | (go_at_call 16; (with_reducible refine (c_i1.out _ _ hG (HL1.out.below lo)).mono ?_); rintro e W1 ⟨g, nn, rfl, hn, hb⟩; replace lo := below_up lo hb; clear hb))
                  go_meet
                  exact ⟨lo, _, _, rfl, rfl, hn⟩
                case rest =>
                  obtain ⟨hp, g1, n1, rfl, rfl, hm1⟩ := hcut
                  replace low := below_up low hp
                  have HL1 := Lib.hid (HL0.out.below low)
                  replace hra := Pv.below hra hp
                  replace hrq := Pv.below hrq hp
                  replace hrr := Pv.below hrr hp
                  replace hrg := Pv.below hrg hp
                  replace hrd := Pv.below hrd hp
                  clear hp
                  go_upto_region 9 with fail
                  go_cut [18, 19] (fun s18 s19 wx => Below wc.heap.size wc wx ∧ ∃ g2 n2, s18 = .slice (some ⟨g2, 0, none⟩) 2 n2 ∧ s19 = .int .i64 0 ∧ Cl wx g2 [.string (numT (some q0)), .string (denT (some q0)), .string (numT (some q0)), .string (denT (some q0)), .string (numT (some q1)), .string (denT (some q1)), .string (numT (some q1)), .string (denT (some q1))])
                  case first => as_aux_lemma =>
                    have lo : Below wc.heap.size wc wc := Below.refl _ _
                    clear low
                    go_wp2_with (first
                      | (go_at_call 45; (with_reducible refine (in_I.out _).mono ?_); rintro e W1 ⟨xI, rfl, hn, hb⟩; replace lo := below_up lo hb; have hI := hn; clear hn; clear hb)
                      | (go_at_call 14; (with_reducible refine (of_r1.out _).mono ?_); rintro e W1 ⟨rfl, hb⟩; replace lo := below_up lo hb; replace hI := Pv.below hI hb; clear hb)
                      | (go_at_call 14; (with_reducible refine (of_q1.out _).mono ?_); rintro e W1 ⟨rfl, hb⟩; replace lo := below_up lo hb; replace hI := Pv.below hI hb; clear hb)
                      | (go_at_call 16; (with_reducible refine (c_i2.out _ _ hI (HL1.out.below lo)).mono ?_); rintro e W1 ⟨g, nn, rfl, hn, hb⟩; replace lo := below_up lo hb; clear hb))
                    go_meet
                    exact ⟨lo, _, _, rfl, rfl, hn⟩
                  case rest =>
                    obtain ⟨hp, g2, n2, rfl, rfl, hm2⟩ := hcut
                    replace low := below_up low hp
                    have HL1 := Lib.hid (HL0.out.below low)
                    replace hra := Pv.below hra hp
                    replace hrq := Pv.below hrq hp
                    replace hrr := Pv.below hrr hp
                    replace hrg := Pv.below hrg hp
                    replace hrd := Pv.below hrd hp
                    replace hm1 := Cl.below hm1 hp
                    clear hp
                    go_upto_region 10 with fail
                    go_cut [20, 21] (fun s20 s21 wx => Below wc.heap.size wc wx ∧ s20 = .int .i64 0 ∧ s21 = .int .i64 70)
                    case first => as_aux_lemma =>
                      have lo : Below wc.heap.size wc wc := Below.refl _ _
                      clear low
                      go_wp2_with (first
                        | (go_at_call 14; (with_reducible refine (of_q0.out _).mono ?_); rintro e W1 ⟨rfl, hb⟩; replace lo := below_up lo hb; clear hb)
                        | (go_at_call 14; (with_reducible refine (of_q1.out _).mono ?_); rintro e W1 ⟨rfl, hb⟩; replace lo := below_up lo hb; clear hb)
                        | (go_at_call 15; (with_reducible refine (c_nf.out _ (HL1.out.below lo)).mono ?_); rintro e W1 ⟨rfl, hb⟩; replace lo := below_up lo hb; clear hb))
                      go_meet
                      exact ⟨lo, rfl, rfl⟩
                    case rest =>
                      obtain ⟨hp, rfl, rfl⟩ := hcut
                      replace low := below_up low hp
                      have HL1 := Lib.hid (HL0.out.below low)
                      replace hra := Pv.below hra hp
                      replace hrq := Pv.below hrq hp
                      replace hrr := Pv.below hrr hp
                      replace hrg := Pv.below hrg hp
                      replace hrd := Pv.below hrd hp
                      replace hm1 := Cl.below hm1 hp
                      replace hm2 := Cl.below hm2 hp
                      clear hp
                      go_upto_region 11 with fail
                      go_cut [22, 23] (fun s22 s23 wx => Below wc.heap.size wc wx ∧ ∃ gx, s22 = .pointer (some ⟨gx, 0, none⟩) ∧ s23 = .int .i64 0 ∧ Cl wx gx [.string (numT (some qc)), .string (denT (some qc))])
                      case first => as_aux_lemma =>
                        have lo : Below wc.heap.size wc wc := Below.refl _ _
                        clear low
                        go_wp2_with (first
                          | (go_at_call 45; (with_reducible refine (in_J.out _).mono ?_); rintro e W1 ⟨xJ, rfl, hn, hb⟩; replace lo := below_up lo hb; have hJ := hn; clear hn; clear hb)
                          | (go_at_call 14; (with_reducible refine (of_q2.out _).mono ?_); rintro e W1 ⟨rfl, hb⟩; replace lo := below_up lo hb; replace hJ := Pv.below hJ hb; clear hb)
                          | (go_at_call 22; (with_reducible refine (c_ev.out _ _ hJ (HL1.out.below lo)).mono ?_); rintro e W1 ⟨rfl, hb⟩; replace lo := below_up lo hb; clear hb))
                        go_meet
                        exact ⟨below_up lo (below1 _ _), _, rfl, rfl, (fun j u hu => Blk.cell (Blk.new _ _ _) j hu)⟩
                      case rest =>
                        obtain ⟨hp, gx, rfl, rfl, hmx⟩ := hcut
                        replace low := below_up low hp
                        have HL1 := Lib.hid (HL0.out.below low)
                        replace hra := Pv.below hra hp
                        replace hrq := Pv.below hrq hp
                        replace hrr := Pv.below hrr hp
                        replace hrg := Pv.below hrg hp
                        replace hrd := Pv.below hrd hp
                        replace hm1 := Cl.below hm1 hp
                        replace hm2 := Cl.below hm2 hp
                        clear hp
                        apply_assumption
                        exact sane_fin of_q0 of_q1 of_qa of_qb of_qc in_K in_L in_M in_N in_O in_P c_same c_v0 c_v1 w _ HL0 low hra hrq hrr hrg hrd hm1 hm2 hmx

end Go.Proofs.YtffndcjmabjhiaaGreatDoor
