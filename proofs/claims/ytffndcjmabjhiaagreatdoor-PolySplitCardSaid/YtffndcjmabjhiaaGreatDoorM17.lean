/- The end of the walk of workpiecelaw07's sane, over contracts. Conditions: none. -/
import Derived.Test.YtffndcjmabjhiaaGreatDoorM1
import Derived.Deep.RegionHeld3
namespace Go.Proofs.YtffndcjmabjhiaaGreatDoor
open Go.RowKit Num
open Go.Shelf

/-- The call returns a polynomial. -/
def RetIn (w : World) (p : List Rat) (e : Ending) (w' : World) : Prop := ∃ v, e = .returned v ∧ Pv w' v p ∧ Below w.heap.size w w'
/-- The call returns a value and an error. -/
def RetT2 (w : World) (v : Value) (k : Int) (e : Ending) (w' : World) : Prop := e = .returned (.tuple #[v, .int .i64 k]) ∧ Below w.heap.size w w'
/-- A block begins with these values. -/
def Cl (w : World) (g : Nat) (L : List Value) : Prop := ∀ j u, L[j]? = some u → w.cell? ⟨g, j, none⟩ = some u
theorem Cl.below {w w' : World} {g : Nat} {L : List Value} (h : Cl w g L) (hb : Below w.heap.size w w') : Cl w' g L := fun j u hu => (hb.cell (cell_lt (h j u hu))).trans (h j u hu)
theorem Cl.cell {w : World} {g : Nat} {L : List Value} (h : Cl w g L) (j : Nat) {v : Value} (hj : L[j]? = some v) : w.cell? ⟨g, j, none⟩ = some v := h j v hj
/-- The call returns a slice of n elements whose cells are known, and no error. -/
def RetCl (w : World) (n : Nat) (L : List Value) (e : Ending) (w' : World) : Prop := ∃ g c, e = .returned (.tuple #[.slice (some ⟨g, 0, none⟩) n c, .int .i64 0]) ∧ Cl w' g L ∧ Below w.heap.size w w'
theorem cell_al {w : World} {a : Addr} {v : Value} {o : Obj} (h : w.cell? a = some v) : (w.alloc o).cell? a = some v := ((below1 w o).cell (cell_lt h)).trans h
/-- What holds at each world of the last region. -/
structure Fin7 (w W : World) (pK pL pM pN pO : List Rat) (s1 s3 s4 s6 s8 : Value) (g1 g2 gx : Nat) (q0 q1 qa qb qc : Rat) : Prop where
  low : Below w.heap.size w W
  a : Pv W s1 pK
  q : Pv W s3 pL
  r : Pv W s4 pM
  g : Pv W s6 pN
  d : Pv W s8 pO
  m1 : Cl W g1 [.string (numT (some qa)), .string (denT (some qa)), .string (numT (some qb)), .string (denT (some qb))]
  m2 : Cl W g2 [.string (numT (some q0)), .string (denT (some q0)), .string (numT (some q0)), .string (denT (some q0)), .string (numT (some q1)), .string (denT (some q1)), .string (numT (some q1)), .string (denT (some q1))]
  mx : Cl W gx [.string (numT (some qc)), .string (denT (some qc))]
theorem Fin7.below {w W W' : World} {pK pL pM pN pO : List Rat} {s1 s3 s4 s6 s8 : Value} {g1 g2 gx : Nat} {q0 q1 qa qb qc : Rat} (h : Fin7 w W pK pL pM pN pO s1 s3 s4 s6 s8 g1 g2 gx q0 q1 qa qb qc) (hb : Below W.heap.size W W') : Fin7 w W' pK pL pM pN pO s1 s3 s4 s6 s8 g1 g2 gx q0 q1 qa qb qc :=
  ⟨below_up h.low hb, h.a.below hb, h.q.below hb, h.r.below hb, h.g.below hb, h.d.below hb, h.m1.below hb, h.m2.below hb, h.mx.below hb⟩
theorem Fin7.cells {w W : World} {pK pL pM pN pO : List Rat} {s1 s3 s4 s6 s8 : Value} {g1 g2 gx : Nat} {q0 q1 qa qb qc : Rat} (h : Fin7 w W pK pL pM pN pO s1 s3 s4 s6 s8 g1 g2 gx q0 q1 qa qb qc) : W.cell? ⟨g1, 0, none⟩ = some (.string (numT (some qa))) ∧ W.cell? ⟨g1, 1, none⟩ = some (.string (denT (some qa))) ∧ W.cell? ⟨g1, 2, none⟩ = some (.string (numT (some qb))) ∧ W.cell? ⟨g1, 3, none⟩ = some (.string (denT (some qb))) ∧ W.cell? ⟨g2, 0, none⟩ = some (.string (numT (some q0))) ∧ W.cell? ⟨g2, 1, none⟩ = some (.string (denT (some q0))) ∧ W.cell? ⟨g2, 2, none⟩ = some (.string (numT (some q0))) ∧ W.cell? ⟨g2, 3, none⟩ = some (.string (denT (some q0))) ∧ W.cell? ⟨g2, 4, none⟩ = some (.string (numT (some q1))) ∧ W.cell? ⟨g2, 5, none⟩ = some (.string (denT (some q1))) ∧ W.cell? ⟨g2, 6, none⟩ = some (.string (numT (some q1))) ∧ W.cell? ⟨g2, 7, none⟩ = some (.string (denT (some q1))) ∧ W.cell? ⟨gx, 0, none⟩ = some (.string (numT (some qc))) ∧ W.cell? ⟨gx, 1, none⟩ = some (.string (denT (some qc))) := ⟨h.m1.cell 0 rfl, h.m1.cell 1 rfl, h.m1.cell 2 rfl, h.m1.cell 3 rfl, h.m2.cell 0 rfl, h.m2.cell 1 rfl, h.m2.cell 2 rfl, h.m2.cell 3 rfl, h.m2.cell 4 rfl, h.m2.cell 5 rfl, h.m2.cell 6 rfl, h.m2.cell 7 rfl, h.mx.cell 0 rfl, h.mx.cell 1 rfl⟩
theorem Fin7.cellsA {w W : World} {pK pL pM pN pO : List Rat} {s1 s3 s4 s6 s8 : Value} {g1 g2 gx : Nat} {q0 q1 qa qb qc : Rat} (h : Fin7 w W pK pL pM pN pO s1 s3 s4 s6 s8 g1 g2 gx q0 q1 qa qb qc) (o : Obj) : (W.alloc o).cell? ⟨g1, 0, none⟩ = some (.string (numT (some qa))) ∧ (W.alloc o).cell? ⟨g1, 1, none⟩ = some (.string (denT (some qa))) ∧ (W.alloc o).cell? ⟨g1, 2, none⟩ = some (.string (numT (some qb))) ∧ (W.alloc o).cell? ⟨g1, 3, none⟩ = some (.string (denT (some qb))) ∧ (W.alloc o).cell? ⟨g2, 0, none⟩ = some (.string (numT (some q0))) ∧ (W.alloc o).cell? ⟨g2, 1, none⟩ = some (.string (denT (some q0))) ∧ (W.alloc o).cell? ⟨g2, 2, none⟩ = some (.string (numT (some q0))) ∧ (W.alloc o).cell? ⟨g2, 3, none⟩ = some (.string (denT (some q0))) ∧ (W.alloc o).cell? ⟨g2, 4, none⟩ = some (.string (numT (some q1))) ∧ (W.alloc o).cell? ⟨g2, 5, none⟩ = some (.string (denT (some q1))) ∧ (W.alloc o).cell? ⟨g2, 6, none⟩ = some (.string (numT (some q1))) ∧ (W.alloc o).cell? ⟨g2, 7, none⟩ = some (.string (denT (some q1))) ∧ (W.alloc o).cell? ⟨gx, 0, none⟩ = some (.string (numT (some qc))) ∧ (W.alloc o).cell? ⟨gx, 1, none⟩ = some (.string (denT (some qc))) := ⟨cell_al (h.m1.cell 0 rfl), cell_al (h.m1.cell 1 rfl), cell_al (h.m1.cell 2 rfl), cell_al (h.m1.cell 3 rfl), cell_al (h.m2.cell 0 rfl), cell_al (h.m2.cell 1 rfl), cell_al (h.m2.cell 2 rfl), cell_al (h.m2.cell 3 rfl), cell_al (h.m2.cell 4 rfl), cell_al (h.m2.cell 5 rfl), cell_al (h.m2.cell 6 rfl), cell_al (h.m2.cell 7 rfl), cell_al (h.mx.cell 0 rfl), cell_al (h.mx.cell 1 rfl)⟩
/-- What stands behind the first statements. -/
def tailC : Nat → Code → Code
  | 0, c => c
  | n + 1, .seq _ c => tailC n c
  | _, c => c
/-- The first of two pieces of code. -/
def headC : Code → Code
  | .seq c _ => c
  | c => c
noncomputable def saneTail : Code := tailC 12 (Tryz.f11.body.getD .skip)
noncomputable def saneLast : Code := headC (tailC 14 (Tryz.f11.body.getD .skip))

set_option maxHeartbeats 8000000 in
set_option maxRecDepth 100000 in
theorem sane_end {q0 q1 qa qb qc : Rat} {pK pL pM pN pO pP : List Rat}
    (of_q0 : Hid (∀ (w : World), Calls Tryz.prog 14 #[.int .i64 0, .int .i64 1] w (RetR w q0)))
    (of_q1 : Hid (∀ (w : World), Calls Tryz.prog 14 #[.int .i64 1, .int .i64 1] w (RetR w q1)))
    (of_qa : Hid (∀ (w : World), Calls Tryz.prog 14 #[.int .i64 11, .int .i64 8] w (RetR w qa)))
    (of_qb : Hid (∀ (w : World), Calls Tryz.prog 14 #[.int .i64 23, .int .i64 16] w (RetR w qb)))
    (of_qc : Hid (∀ (w : World), Calls Tryz.prog 14 #[.int .i64 17, .int .i64 1] w (RetR w qc)))
    (in_K : Hid (∀ (w : World), Calls Tryz.prog 45 #[.slice (some ⟨w.heap.size, 0, none⟩) 3 3] (w.alloc (.cells #[.int .i64 1, .int .i64 0, .int .i64 (-1)] 3)) (RetIn w pK)))
    (in_L : Hid (∀ (w : World), Calls Tryz.prog 45 #[.slice (some ⟨w.heap.size, 0, none⟩) 2 2] (w.alloc (.cells #[.int .i64 2, .int .i64 1] 3)) (RetIn w pL)))
    (in_M : Hid (∀ (w : World), Calls Tryz.prog 45 #[.slice (some ⟨w.heap.size, 0, none⟩) 1 1] (w.alloc (.cells #[.int .i64 3] 3)) (RetIn w pM)))
    (in_N : Hid (∀ (w : World), Calls Tryz.prog 45 #[.slice (some ⟨w.heap.size, 0, none⟩) 2 2] (w.alloc (.cells #[.int .i64 (-1), .int .i64 1] 3)) (RetIn w pN)))
    (in_O : Hid (∀ (w : World), Calls Tryz.prog 45 #[.slice (some ⟨w.heap.size, 0, none⟩) 3 3] (w.alloc (.cells #[.int .i64 0, .int .i64 0, .int .i64 3] 3)) (RetIn w pO)))
    (in_P : Hid (∀ (w : World), Calls Tryz.prog 45 #[.slice (some ⟨w.heap.size, 0, none⟩) 2 2] (w.alloc (.cells #[.int .i64 1, .int .i64 0] 3)) (RetIn w pP)))
    (c_same : Hid (∀ (p : List Rat) (w : World) (v u : Value), Pv w v p → Pv w u p → Calls Tryz.prog 46 #[v, u] w (RetB w true)))
    (c_v0 : Hid (∀ (w : World), Laid w → Calls Tryz.prog 43 #[.slice none 0 0] w (RetB w true)))
    (c_v1 : Hid (∀ (w : World) (v : Value), Pv w v pP → Laid w → Calls Tryz.prog 43 #[v] w (RetB w false)))
    (w wc : World) (HL0 : Hid (Laid w)) (low : Below w.heap.size w wc) {s1 s3 s4 s6 s8 : Value} {g1 n1 g2 n2 gx : Nat} (hra : Pv wc s1 pK) (hrq : Pv wc s3 pL) (hrr : Pv wc s4 pM) (hrg : Pv wc s6 pN) (hrd : Pv wc s8 pO)
    (hm1 : Cl wc g1 [.string (numT (some qa)), .string (denT (some qa)), .string (numT (some qb)), .string (denT (some qb))]) (hm2 : Cl wc g2 [.string (numT (some q0)), .string (denT (some q0)), .string (numT (some q0)), .string (denT (some q0)), .string (numT (some q1)), .string (denT (some q1)), .string (numT (some q1)), .string (denT (some q1))]) (hmx : Cl wc gx [.string (numT (some qc)), .string (denT (some qc))])
    {u25 u26 u27 u28 u29 u30 u31 u32 u33 u34 u35 u36 u37 u38 u39 u40 u41 u42 u43 u44 u45 u46 u47 u48 u49 u50 u51 u52 u53 u54 u55 u56 u57 u58 u59 u60 u61 u62 u63 u64 u65 u66 u67 u68 u69 u70 u71 u72 u73 u74 u75 u76 u77 u78 u79 u80 u81 u82 u83 u84 u85 u86 u87 u88 u89 u90 u91 u92 u93 u94 u95 u96 u97 u98 u99 u100 u101 u102 u103 u104 u105 u106 u107 u108 u109 u110 u111 u112 u113 u114 u115 u116 u117 u118 u119 u120 u121 u122 u123 u124 u125 u126 u127 u128 u129 u130 u131 u132 u133 u134 u135 u136 u137 u138 u139 u140 u141 u142 u143 u144 u145 u146 u147 u148 u149 u150 u151 u152 u153 u154 u155 u156 u157 u158 u159 u160 u161 u162 u163 u164 u165 u166 u167 u168 u169 u170 u171 u172 u173 u174 u175 u176 u177 u178 u179 u180 u181 u182 u183 u184 u185 u186 u187 u188 u189 u190 u191 u192 u193 u194 u195 u196 u197 u198 u199 u200 u201 u202 u203 u204 u205 u206 u207 u208 u209 u210 u211 u212 u213 u214 u215 u216 u217 u218 u219 u220 u221 u222 u223 u224 u225 u226 u227 u228 u229 u230 u231 u232 u233 u234 u235 u236 u237 u238 u239 u240 u241 u242 : Value}
    {K : Act → World → Prop} {Q : Exit → Act → World → Prop} (hKK : ∀ (l : List Value) (w' : World), Below w.heap.size w w' → K { tmps := (Value.bool true :: l).toArray, defers := [] } w') :
    saneLast.wp Tryz.prog (Exit.then K Q) { tmps := #[.bool false, s1, .int .i64 0, s3, s4, .int .i64 0, s6, .int .i64 0, s8, .int .i64 0, .int .i64 1, .int .i64 0, .int .i64 2, .int .i64 0, .int .i64 1, .int .i64 0, .slice (some ⟨g1, 0, none⟩) 1 n1, .int .i64 0, .slice (some ⟨g2, 0, none⟩) 2 n2, .int .i64 0, .int .i64 0, .int .i64 70, .pointer (some ⟨gx, 0, none⟩), .int .i64 0, .bool true, u25, u26, u27, u28, u29, u30, u31, u32, u33, u34, u35, u36, u37, u38, u39, u40, u41, u42, u43, u44, u45, u46, u47, u48, u49, u50, u51, u52, u53, u54, u55, u56, u57, u58, u59, u60, u61, u62, u63, u64, u65, u66, u67, u68, u69, u70, u71, u72, u73, u74, u75, u76, u77, u78, u79, u80, u81, u82, u83, u84, u85, u86, u87, u88, u89, u90, u91, u92, u93, u94, u95, u96, u97, u98, u99, u100, u101, u102, u103, u104, u105, u106, u107, u108, u109, u110, u111, u112, u113, u114, u115, u116, u117, u118, u119, u120, u121, u122, u123, u124, u125, u126, u127, u128, u129, u130, u131, u132, u133, u134, u135, u136, u137, u138, u139, u140, u141, u142, u143, u144, u145, u146, u147, u148, u149, u150, u151, u152, u153, u154, u155, u156, u157, u158, u159, u160, u161, u162, u163, u164, u165, u166, u167, u168, u169, u170, u171, u172, u173, u174, u175, u176, u177, u178, u179, u180, u181, u182, u183, u184, u185, u186, u187, u188, u189, u190, u191, u192, u193, u194, u195, u196, u197, u198, u199, u200, u201, u202, u203, u204, u205, u206, u207, u208, u209, u210, u211, u212, u213, u214, u215, u216, u217, u218, u219, u220, u221, u222, u223, u224, u225, u226, u227, u228, u229, u230, u231, u232, u233, u234, u235, u236, u237, u238, u239, u240, u241, u242], defers := [] } wc := by
  have hmixed : Tryz.prog.follows .mixedOrders = true := by kernel_rfl
  dsimp only [saneLast, headC, tailC, Tryz.f11, Option.getD]
  have F : Fin7 w wc.drew pK pL pM pN pO s1 s3 s4 s6 s8 g1 g2 gx q0 q1 qa qb qc := Fin7.below ⟨low, hra, hrq, hrr, hrg, hrd, hm1, hm2, hmx⟩ ((Below.refl _ _).drew)
  have in_K0 : Hid (Calls Tryz.prog 45 #[.slice (some ⟨wc.heap.size, 0, none⟩) 3 3] ((wc.alloc (.cells #[.int .i64 1, .int .i64 0, .int .i64 (-1)] 3)).drew) (RetIn wc.drew pK)) := Lib.hid (in_K.out wc.drew)
  clear in_K low hra hrq hrr hrg hrd hm1 hm2 hmx
  simp only [List.append_eq, List.cons_append, List.nil_append]
  refine wp_region_noPanic ?_
  refine wp_region_held_drew (S := fun w' => w'.cell? ⟨g1, 0, none⟩ = some (.string (numT (some qa))) ∧ w'.cell? ⟨g1, 1, none⟩ = some (.string (denT (some qa))) ∧ w'.cell? ⟨g1, 2, none⟩ = some (.string (numT (some qb))) ∧ w'.cell? ⟨g1, 3, none⟩ = some (.string (denT (some qb))) ∧ w'.cell? ⟨g2, 0, none⟩ = some (.string (numT (some q0))) ∧ w'.cell? ⟨g2, 1, none⟩ = some (.string (denT (some q0))) ∧ w'.cell? ⟨g2, 2, none⟩ = some (.string (numT (some q0))) ∧ w'.cell? ⟨g2, 3, none⟩ = some (.string (denT (some q0))) ∧ w'.cell? ⟨g2, 4, none⟩ = some (.string (numT (some q1))) ∧ w'.cell? ⟨g2, 5, none⟩ = some (.string (denT (some q1))) ∧ w'.cell? ⟨g2, 6, none⟩ = some (.string (numT (some q1))) ∧ w'.cell? ⟨g2, 7, none⟩ = some (.string (denT (some q1))) ∧ w'.cell? ⟨gx, 0, none⟩ = some (.string (numT (some qc))) ∧ w'.cell? ⟨gx, 1, none⟩ = some (.string (denT (some qc)))) (by kernel_rfl) (by first | exact F.cells | exact F.cellsA _) (fun hHeld => ?_)
  refine wpAnyH_take (i := 0) (oi := _) (v := .bool true) (by simp only [List.getElem?_toArray, List.getElem?_cons_zero]; rfl) (by kernel_rfl) (by kernel_rfl) (by kernel_rfl) (fun _ _ _ h => h) (Or.inl ⟨by rfl, ?hy1⟩) (by assumption) ?r1
  case hy1 => (intro w hSw; (try dsimp only at hSw); go_simp; try with_reducible rfl)
  (try simp only [Act.put, List.setIfInBounds_toArray, List.set_cons_zero, List.set_cons_succ])
  refine wpAnyH_take (i := 1) (oi := _) (v := .bool true) (by simp only [List.getElem?_toArray, List.getElem?_cons_succ, List.getElem?_cons_zero]; rfl) (by kernel_rfl) (by kernel_rfl) (by kernel_rfl) (fun _ _ _ h => h) (Or.inl ⟨by rfl, ?hy2⟩) (by assumption) ?r2
  case hy2 => (intro w hSw; (try dsimp only at hSw); go_simp; try with_reducible rfl)
  (try simp only [Act.put, List.setIfInBounds_toArray, List.set_cons_zero, List.set_cons_succ])
  refine wpAnyH_take (i := 2) (oi := _) (v := ?v3) (by simp only [List.getElem?_toArray, List.getElem?_cons_succ, List.getElem?_cons_zero]; rfl) (by kernel_rfl) (by kernel_rfl) (by kernel_rfl) (fun _ _ _ h => h) (Or.inl ⟨by rfl, ?hy3⟩) (by assumption) ?r3
  case hy3 => (intro w hSw; (try dsimp only at hSw); go_simp; try with_reducible rfl)
  (try simp only [Act.put, List.setIfInBounds_toArray, List.set_cons_zero, List.set_cons_succ])
  refine wpAnyH_ready (rs := [3]) (by kernel_rfl) (by simp) ?_
  refine AllReadyH.cons (o := ?o4) ?ho4 (fun Kd hKd => ?st4) ?mo4
  case ho4 => (simp only [List.getElem?_toArray, List.getElem?_cons_succ, List.getElem?_cons_zero]; rfl)
  case mo4 => exact AllReadyH.nil
  case st4 =>
    go_simp
    refine hKd.out _ _ ?_ (fun hH2 => ?_)
    · ((try dsimp only); first | exact F.cells | exact F.cellsA _)
    clear hKd Kd hHeld
    have hHeld := hH2
    clear hH2
    (try simp only [Act.put, List.setIfInBounds_toArray, List.set_cons_zero, List.set_cons_succ])
    refine wpAnyH_ready (rs := [4]) (by kernel_rfl) (by simp) ?_
    refine AllReadyH.cons (o := ?o5) ?ho5 (fun Kd hKd => ?st5) ?mo5
    case ho5 => (simp only [List.getElem?_toArray, List.getElem?_cons_succ, List.getElem?_cons_zero]; rfl)
    case mo5 => exact AllReadyH.nil
    case st5 =>
      go_simp
      (go_at_call 45; (with_reducible refine (in_K0.out).mono ?_); rintro e W1 ⟨xK, rfl, hK, hb⟩; replace F := F.below hb; clear hb)
      (try go_wp2_with fail)
      refine hKd.out _ _ ?_ (fun hH2 => ?_)
      · ((try dsimp only); first | exact F.cells | exact F.cellsA _)
      clear hKd Kd hHeld
      have hHeld := hH2
      clear hH2
      (try simp only [Act.put, List.setIfInBounds_toArray, List.set_cons_zero, List.set_cons_succ])
      refine wpAnyH_ready (rs := [5]) (by kernel_rfl) (by simp) ?_
      refine AllReadyH.cons (o := ?o6) ?ho6 (fun Kd hKd => ?st6) ?mo6
      case ho6 => (simp only [List.getElem?_toArray, List.getElem?_cons_succ, List.getElem?_cons_zero]; rfl)
      case mo6 => exact AllReadyH.nil
      case st6 =>
        go_simp
        (go_at_call 46; (with_reducible refine (c_same.out _ _ _ _ F.a hK).mono ?_); rintro e W1 ⟨rfl, hb⟩; replace F := F.below hb; clear hb)
        (try go_wp2_with fail)
        refine hKd.out _ _ ?_ (fun hH2 => ?_)
        · ((try dsimp only); first | exact F.cells | exact F.cellsA _)
        clear hKd Kd hHeld
        have hHeld := hH2
        clear hH2
        (try simp only [Act.put, List.setIfInBounds_toArray, List.set_cons_zero, List.set_cons_succ])
        refine wpAnyH_take (i := 6) (oi := _) (v := .bool true) (by simp only [List.getElem?_toArray, List.getElem?_cons_succ, List.getElem?_cons_zero]; rfl) (by kernel_rfl) (by kernel_rfl) (by kernel_rfl) (fun _ _ _ h => h) (Or.inl ⟨by rfl, ?hy7⟩) (by assumption) ?r7
        case hy7 => (intro w hSw; (try dsimp only at hSw); go_simp; try with_reducible rfl)
        (try simp only [Act.put, List.setIfInBounds_toArray, List.set_cons_zero, List.set_cons_succ])
        refine wpAnyH_take (i := 7) (oi := _) (v := .bool true) (by simp only [List.getElem?_toArray, List.getElem?_cons_succ, List.getElem?_cons_zero]; rfl) (by kernel_rfl) (by kernel_rfl) (by kernel_rfl) (fun _ _ _ h => h) (Or.inl ⟨by rfl, ?hy8⟩) (by assumption) ?r8
        case hy8 => (intro w hSw; (try dsimp only at hSw); go_simp; try with_reducible rfl)
        (try simp only [Act.put, List.setIfInBounds_toArray, List.set_cons_zero, List.set_cons_succ])
        refine wpAnyH_take (i := 8) (oi := _) (v := ?v9) (by simp only [List.getElem?_toArray, List.getElem?_cons_succ, List.getElem?_cons_zero]; rfl) (by kernel_rfl) (by kernel_rfl) (by kernel_rfl) (fun _ _ _ h => h) (Or.inl ⟨by rfl, ?hy9⟩) (by assumption) ?r9
        case hy9 => (intro w hSw; (try dsimp only at hSw); go_simp; try with_reducible rfl)
        (try simp only [Act.put, List.setIfInBounds_toArray, List.set_cons_zero, List.set_cons_succ])
        refine wpAnyH_ready (rs := [9]) (by kernel_rfl) (by simp) ?_
        refine AllReadyH.cons (o := ?o10) ?ho10 (fun Kd hKd => ?st10) ?mo10
        case ho10 => (simp only [List.getElem?_toArray, List.getElem?_cons_succ, List.getElem?_cons_zero]; rfl)
        case mo10 => exact AllReadyH.nil
        case st10 =>
          go_simp
          refine hKd.out _ _ ?_ (fun hH2 => ?_)
          · ((try dsimp only); first | exact F.cells | exact F.cellsA _)
          clear hKd Kd hHeld
          have hHeld := hH2
          clear hH2
          (try simp only [Act.put, List.setIfInBounds_toArray, List.set_cons_zero, List.set_cons_succ])
          refine wpAnyH_ready (rs := [10]) (by kernel_rfl) (by simp) ?_
          refine AllReadyH.cons (o := ?o11) ?ho11 (fun Kd hKd => ?st11) ?mo11
          case ho11 => (simp only [List.getElem?_toArray, List.getElem?_cons_succ, List.getElem?_cons_zero]; rfl)
          case mo11 => exact AllReadyH.nil
          case st11 =>
            go_simp
            (go_at_call 45; (with_reducible refine (in_L.out _).mono ?_); rintro e W1 ⟨xL, rfl, hL, hb⟩; replace F := F.below hb; clear hb)
            (try go_wp2_with fail)
            refine hKd.out _ _ ?_ (fun hH2 => ?_)
            · ((try dsimp only); first | exact F.cells | exact F.cellsA _)
            clear hKd Kd hHeld
            have hHeld := hH2
            clear hH2
            (try simp only [Act.put, List.setIfInBounds_toArray, List.set_cons_zero, List.set_cons_succ])
            refine wpAnyH_ready (rs := [11]) (by kernel_rfl) (by simp) ?_
            refine AllReadyH.cons (o := ?o12) ?ho12 (fun Kd hKd => ?st12) ?mo12
            case ho12 => (simp only [List.getElem?_toArray, List.getElem?_cons_succ, List.getElem?_cons_zero]; rfl)
            case mo12 => exact AllReadyH.nil
            case st12 =>
              go_simp
              (go_at_call 46; (with_reducible refine (c_same.out _ _ _ _ F.q hL).mono ?_); rintro e W1 ⟨rfl, hb⟩; replace F := F.below hb; clear hb)
              (try go_wp2_with fail)
              refine hKd.out _ _ ?_ (fun hH2 => ?_)
              · ((try dsimp only); first | exact F.cells | exact F.cellsA _)
              clear hKd Kd hHeld
              have hHeld := hH2
              clear hH2
              (try simp only [Act.put, List.setIfInBounds_toArray, List.set_cons_zero, List.set_cons_succ])
              refine wpAnyH_take (i := 12) (oi := _) (v := .bool true) (by simp only [List.getElem?_toArray, List.getElem?_cons_succ, List.getElem?_cons_zero]; rfl) (by kernel_rfl) (by kernel_rfl) (by kernel_rfl) (fun _ _ _ h => h) (Or.inl ⟨by rfl, ?hy13⟩) (by assumption) ?r13
              case hy13 => (intro w hSw; (try dsimp only at hSw); go_simp; try with_reducible rfl)
              (try simp only [Act.put, List.setIfInBounds_toArray, List.set_cons_zero, List.set_cons_succ])
              refine wpAnyH_take (i := 13) (oi := _) (v := .bool true) (by simp only [List.getElem?_toArray, List.getElem?_cons_succ, List.getElem?_cons_zero]; rfl) (by kernel_rfl) (by kernel_rfl) (by kernel_rfl) (fun _ _ _ h => h) (Or.inl ⟨by rfl, ?hy14⟩) (by assumption) ?r14
              case hy14 => (intro w hSw; (try dsimp only at hSw); go_simp; try with_reducible rfl)
              (try simp only [Act.put, List.setIfInBounds_toArray, List.set_cons_zero, List.set_cons_succ])
              refine wpAnyH_take (i := 14) (oi := _) (v := ?v15) (by simp only [List.getElem?_toArray, List.getElem?_cons_succ, List.getElem?_cons_zero]; rfl) (by kernel_rfl) (by kernel_rfl) (by kernel_rfl) (fun _ _ _ h => h) (Or.inl ⟨by rfl, ?hy15⟩) (by assumption) ?r15
              case hy15 => (intro w hSw; (try dsimp only at hSw); go_simp; try with_reducible rfl)
              (try simp only [Act.put, List.setIfInBounds_toArray, List.set_cons_zero, List.set_cons_succ])
              refine wpAnyH_ready (rs := [15]) (by kernel_rfl) (by simp) ?_
              refine AllReadyH.cons (o := ?o16) ?ho16 (fun Kd hKd => ?st16) ?mo16
              case ho16 => (simp only [List.getElem?_toArray, List.getElem?_cons_succ, List.getElem?_cons_zero]; rfl)
              case mo16 => exact AllReadyH.nil
              case st16 =>
                go_simp
                refine hKd.out _ _ ?_ (fun hH2 => ?_)
                · ((try dsimp only); first | exact F.cells | exact F.cellsA _)
                clear hKd Kd hHeld
                have hHeld := hH2
                clear hH2
                (try simp only [Act.put, List.setIfInBounds_toArray, List.set_cons_zero, List.set_cons_succ])
                refine wpAnyH_ready (rs := [16]) (by kernel_rfl) (by simp) ?_
                refine AllReadyH.cons (o := ?o17) ?ho17 (fun Kd hKd => ?st17) ?mo17
                case ho17 => (simp only [List.getElem?_toArray, List.getElem?_cons_succ, List.getElem?_cons_zero]; rfl)
                case mo17 => exact AllReadyH.nil
                case st17 =>
                  go_simp
                  (go_at_call 45; (with_reducible refine (in_M.out _).mono ?_); rintro e W1 ⟨xM, rfl, hM, hb⟩; replace F := F.below hb; clear hb)
                  (try go_wp2_with fail)
                  refine hKd.out _ _ ?_ (fun hH2 => ?_)
                  · ((try dsimp only); first | exact F.cells | exact F.cellsA _)
                  clear hKd Kd hHeld
                  have hHeld := hH2
                  clear hH2
                  (try simp only [Act.put, List.setIfInBounds_toArray, List.set_cons_zero, List.set_cons_succ])
                  refine wpAnyH_ready (rs := [17]) (by kernel_rfl) (by simp) ?_
                  refine AllReadyH.cons (o := ?o18) ?ho18 (fun Kd hKd => ?st18) ?mo18
                  case ho18 => (simp only [List.getElem?_toArray, List.getElem?_cons_succ, List.getElem?_cons_zero]; rfl)
                  case mo18 => exact AllReadyH.nil
                  case st18 =>
                    go_simp
                    (go_at_call 46; (with_reducible refine (c_same.out _ _ _ _ F.r hM).mono ?_); rintro e W1 ⟨rfl, hb⟩; replace F := F.below hb; clear hb)
                    (try go_wp2_with fail)
                    refine hKd.out _ _ ?_ (fun hH2 => ?_)
                    · ((try dsimp only); first | exact F.cells | exact F.cellsA _)
                    clear hKd Kd hHeld
                    have hHeld := hH2
                    clear hH2
                    (try simp only [Act.put, List.setIfInBounds_toArray, List.set_cons_zero, List.set_cons_succ])
                    refine wpAnyH_take (i := 18) (oi := _) (v := .bool true) (by simp only [List.getElem?_toArray, List.getElem?_cons_succ, List.getElem?_cons_zero]; rfl) (by kernel_rfl) (by kernel_rfl) (by kernel_rfl) (fun _ _ _ h => h) (Or.inl ⟨by rfl, ?hy19⟩) (by assumption) ?r19
                    case hy19 => (intro w hSw; (try dsimp only at hSw); go_simp; try with_reducible rfl)
                    (try simp only [Act.put, List.setIfInBounds_toArray, List.set_cons_zero, List.set_cons_succ])
                    refine wpAnyH_take (i := 19) (oi := _) (v := .bool true) (by simp only [List.getElem?_toArray, List.getElem?_cons_succ, List.getElem?_cons_zero]; rfl) (by kernel_rfl) (by kernel_rfl) (by kernel_rfl) (fun _ _ _ h => h) (Or.inl ⟨by rfl, ?hy20⟩) (by assumption) ?r20
                    case hy20 => (intro w hSw; (try dsimp only at hSw); go_simp; try with_reducible rfl)
                    (try simp only [Act.put, List.setIfInBounds_toArray, List.set_cons_zero, List.set_cons_succ])
                    refine wpAnyH_take (i := 20) (oi := _) (v := ?v21) (by simp only [List.getElem?_toArray, List.getElem?_cons_succ, List.getElem?_cons_zero]; rfl) (by kernel_rfl) (by kernel_rfl) (by kernel_rfl) (fun _ _ _ h => h) (Or.inl ⟨by rfl, ?hy21⟩) (by assumption) ?r21
                    case hy21 => (intro w hSw; (try dsimp only at hSw); go_simp; try with_reducible rfl)
                    (try simp only [Act.put, List.setIfInBounds_toArray, List.set_cons_zero, List.set_cons_succ])
                    refine wpAnyH_ready (rs := [21]) (by kernel_rfl) (by simp) ?_
                    refine AllReadyH.cons (o := ?o22) ?ho22 (fun Kd hKd => ?st22) ?mo22
                    case ho22 => (simp only [List.getElem?_toArray, List.getElem?_cons_succ, List.getElem?_cons_zero]; rfl)
                    case mo22 => exact AllReadyH.nil
                    case st22 =>
                      go_simp
                      refine hKd.out _ _ ?_ (fun hH2 => ?_)
                      · ((try dsimp only); first | exact F.cells | exact F.cellsA _)
                      clear hKd Kd hHeld
                      have hHeld := hH2
                      clear hH2
                      (try simp only [Act.put, List.setIfInBounds_toArray, List.set_cons_zero, List.set_cons_succ])
                      refine wpAnyH_ready (rs := [22]) (by kernel_rfl) (by simp) ?_
                      refine AllReadyH.cons (o := ?o23) ?ho23 (fun Kd hKd => ?st23) ?mo23
                      case ho23 => (simp only [List.getElem?_toArray, List.getElem?_cons_succ, List.getElem?_cons_zero]; rfl)
                      case mo23 => exact AllReadyH.nil
                      case st23 =>
                        go_simp
                        (go_at_call 45; (with_reducible refine (in_N.out _).mono ?_); rintro e W1 ⟨xN, rfl, hN, hb⟩; replace F := F.below hb; clear hb)
                        (try go_wp2_with fail)
                        refine hKd.out _ _ ?_ (fun hH2 => ?_)
                        · ((try dsimp only); first | exact F.cells | exact F.cellsA _)
                        clear hKd Kd hHeld
                        have hHeld := hH2
                        clear hH2
                        (try simp only [Act.put, List.setIfInBounds_toArray, List.set_cons_zero, List.set_cons_succ])
                        as_aux_lemma =>
                          refine wpAnyH_ready (rs := [23]) (by kernel_rfl) (by simp) ?_
                          refine AllReadyH.cons (o := ?o24) ?ho24 (fun Kd hKd => ?st24) ?mo24
                          case ho24 => (simp only [List.getElem?_toArray, List.getElem?_cons_succ, List.getElem?_cons_zero]; rfl)
                          case mo24 => exact AllReadyH.nil
                          case st24 =>
                            go_simp
                            (go_at_call 46; (with_reducible refine (c_same.out _ _ _ _ F.g hN).mono ?_); rintro e W1 ⟨rfl, hb⟩; replace F := F.below hb; clear hb)
                            (try go_wp2_with fail)
                            refine hKd.out _ _ ?_ (fun hH2 => ?_)
                            · ((try dsimp only); first | exact F.cells | exact F.cellsA _)
                            clear hKd Kd hHeld
                            have hHeld := hH2
                            clear hH2
                            (try simp only [Act.put, List.setIfInBounds_toArray, List.set_cons_zero, List.set_cons_succ])
                            refine wpAnyH_take (i := 24) (oi := _) (v := .bool true) (by simp only [List.getElem?_toArray, List.getElem?_cons_succ, List.getElem?_cons_zero]; rfl) (by kernel_rfl) (by kernel_rfl) (by kernel_rfl) (fun _ _ _ h => h) (Or.inl ⟨by rfl, ?hy25⟩) (by assumption) ?r25
                            case hy25 => (intro w hSw; (try dsimp only at hSw); go_simp; try with_reducible rfl)
                            (try simp only [Act.put, List.setIfInBounds_toArray, List.set_cons_zero, List.set_cons_succ])
                            refine wpAnyH_take (i := 25) (oi := _) (v := .bool true) (by simp only [List.getElem?_toArray, List.getElem?_cons_succ, List.getElem?_cons_zero]; rfl) (by kernel_rfl) (by kernel_rfl) (by kernel_rfl) (fun _ _ _ h => h) (Or.inl ⟨by rfl, ?hy26⟩) (by assumption) ?r26
                            case hy26 => (intro w hSw; (try dsimp only at hSw); go_simp; try with_reducible rfl)
                            (try simp only [Act.put, List.setIfInBounds_toArray, List.set_cons_zero, List.set_cons_succ])
                            refine wpAnyH_take (i := 26) (oi := _) (v := ?v27) (by simp only [List.getElem?_toArray, List.getElem?_cons_succ, List.getElem?_cons_zero]; rfl) (by kernel_rfl) (by kernel_rfl) (by kernel_rfl) (fun _ _ _ h => h) (Or.inl ⟨by rfl, ?hy27⟩) (by assumption) ?r27
                            case hy27 => (intro w hSw; (try dsimp only at hSw); go_simp; try with_reducible rfl)
                            (try simp only [Act.put, List.setIfInBounds_toArray, List.set_cons_zero, List.set_cons_succ])
                            refine wpAnyH_ready (rs := [27]) (by kernel_rfl) (by simp) ?_
                            refine AllReadyH.cons (o := ?o28) ?ho28 (fun Kd hKd => ?st28) ?mo28
                            case ho28 => (simp only [List.getElem?_toArray, List.getElem?_cons_succ, List.getElem?_cons_zero]; rfl)
                            case mo28 => exact AllReadyH.nil
                            case st28 =>
                              go_simp
                              refine hKd.out _ _ ?_ (fun hH2 => ?_)
                              · ((try dsimp only); first | exact F.cells | exact F.cellsA _)
                              clear hKd Kd hHeld
                              have hHeld := hH2
                              clear hH2
                              (try simp only [Act.put, List.setIfInBounds_toArray, List.set_cons_zero, List.set_cons_succ])
                              refine wpAnyH_ready (rs := [28]) (by kernel_rfl) (by simp) ?_
                              refine AllReadyH.cons (o := ?o29) ?ho29 (fun Kd hKd => ?st29) ?mo29
                              case ho29 => (simp only [List.getElem?_toArray, List.getElem?_cons_succ, List.getElem?_cons_zero]; rfl)
                              case mo29 => exact AllReadyH.nil
                              case st29 =>
                                go_simp
                                (go_at_call 45; (with_reducible refine (in_O.out _).mono ?_); rintro e W1 ⟨xO, rfl, hO, hb⟩; replace F := F.below hb; clear hb)
                                (try go_wp2_with fail)
                                refine hKd.out _ _ ?_ (fun hH2 => ?_)
                                · ((try dsimp only); first | exact F.cells | exact F.cellsA _)
                                clear hKd Kd hHeld
                                have hHeld := hH2
                                clear hH2
                                (try simp only [Act.put, List.setIfInBounds_toArray, List.set_cons_zero, List.set_cons_succ])
                                refine wpAnyH_ready (rs := [29]) (by kernel_rfl) (by simp) ?_
                                refine AllReadyH.cons (o := ?o30) ?ho30 (fun Kd hKd => ?st30) ?mo30
                                case ho30 => (simp only [List.getElem?_toArray, List.getElem?_cons_succ, List.getElem?_cons_zero]; rfl)
                                case mo30 => exact AllReadyH.nil
                                case st30 =>
                                  go_simp
                                  (go_at_call 46; (with_reducible refine (c_same.out _ _ _ _ F.d hO).mono ?_); rintro e W1 ⟨rfl, hb⟩; replace F := F.below hb; clear hb)
                                  (try go_wp2_with fail)
                                  refine hKd.out _ _ ?_ (fun hH2 => ?_)
                                  · ((try dsimp only); first | exact F.cells | exact F.cellsA _)
                                  clear hKd Kd hHeld
                                  have hHeld := hH2
                                  clear hH2
                                  (try simp only [Act.put, List.setIfInBounds_toArray, List.set_cons_zero, List.set_cons_succ])
                                  refine wpAnyH_take (i := 30) (oi := _) (v := .bool true) (by simp only [List.getElem?_toArray, List.getElem?_cons_succ, List.getElem?_cons_zero]; rfl) (by kernel_rfl) (by kernel_rfl) (by kernel_rfl) (fun _ _ _ h => h) (Or.inl ⟨by rfl, ?hy31⟩) (by assumption) ?r31
                                  case hy31 => (intro w hSw; (try dsimp only at hSw); go_simp; try with_reducible rfl)
                                  (try simp only [Act.put, List.setIfInBounds_toArray, List.set_cons_zero, List.set_cons_succ])
                                  refine wpAnyH_take (i := 31) (oi := _) (v := .bool true) (by simp only [List.getElem?_toArray, List.getElem?_cons_succ, List.getElem?_cons_zero]; rfl) (by kernel_rfl) (by kernel_rfl) (by kernel_rfl) (fun _ _ _ h => h) (Or.inl ⟨by rfl, ?hy32⟩) (by assumption) ?r32
                                  case hy32 => (intro w hSw; (try dsimp only at hSw); go_simp; try with_reducible rfl)
                                  (try simp only [Act.put, List.setIfInBounds_toArray, List.set_cons_zero, List.set_cons_succ])
                                  refine wpAnyH_take (i := 32) (oi := _) (v := ?v33) (by simp only [List.getElem?_toArray, List.getElem?_cons_succ, List.getElem?_cons_zero]; rfl) (by kernel_rfl) (by kernel_rfl) (by kernel_rfl) (fun _ _ _ h => h) (Or.inl ⟨by rfl, ?hy33⟩) (by assumption) ?r33
                                  case hy33 => (intro w hSw; (try dsimp only at hSw); go_simp; try with_reducible rfl)
                                  (try simp only [Act.put, List.setIfInBounds_toArray, List.set_cons_zero, List.set_cons_succ])
                                  refine wpAnyH_take (i := 33) (oi := _) (v := .bool true) (by simp only [List.getElem?_toArray, List.getElem?_cons_succ, List.getElem?_cons_zero]; rfl) (by kernel_rfl) (by kernel_rfl) (by kernel_rfl) (fun _ _ _ h => h) (Or.inl ⟨by rfl, ?hy34⟩) (by assumption) ?r34
                                  case hy34 => (intro w hSw; (try dsimp only at hSw); go_simp; try with_reducible rfl)
                                  (try simp only [Act.put, List.setIfInBounds_toArray, List.set_cons_zero, List.set_cons_succ])
                                  refine wpAnyH_take (i := 34) (oi := _) (v := .bool true) (by simp only [List.getElem?_toArray, List.getElem?_cons_succ, List.getElem?_cons_zero]; rfl) (by kernel_rfl) (by kernel_rfl) (by kernel_rfl) (fun _ _ _ h => h) (Or.inl ⟨by rfl, ?hy35⟩) (by assumption) ?r35
                                  case hy35 => (intro w hSw; (try dsimp only at hSw); go_simp; try with_reducible rfl)
                                  (try simp only [Act.put, List.setIfInBounds_toArray, List.set_cons_zero, List.set_cons_succ])
                                  refine wpAnyH_take (i := 35) (oi := _) (v := .bool true) (by simp only [List.getElem?_toArray, List.getElem?_cons_succ, List.getElem?_cons_zero]; rfl) (by kernel_rfl) (by kernel_rfl) (by kernel_rfl) (fun _ _ _ h => h) (Or.inl ⟨by rfl, ?hy36⟩) (by assumption) ?r36
                                  case hy36 => (intro w hSw; (try dsimp only at hSw); go_simp; try with_reducible rfl)
                                  (try simp only [Act.put, List.setIfInBounds_toArray, List.set_cons_zero, List.set_cons_succ])
                                  refine wpAnyH_take (i := 36) (oi := _) (v := ?v37) (by simp only [List.getElem?_toArray, List.getElem?_cons_succ, List.getElem?_cons_zero]; rfl) (by kernel_rfl) (by kernel_rfl) (by kernel_rfl) (fun _ _ _ h => h) (Or.inl ⟨by rfl, ?hy37⟩) (by assumption) ?r37
                                  case hy37 => (intro w hSw; (try dsimp only at hSw); go_simp; try with_reducible rfl)
                                  (try simp only [Act.put, List.setIfInBounds_toArray, List.set_cons_zero, List.set_cons_succ])
                                  refine wpAnyH_take (i := 37) (oi := _) (v := .bool true) (by simp only [List.getElem?_toArray, List.getElem?_cons_succ, List.getElem?_cons_zero]; rfl) (by kernel_rfl) (by kernel_rfl) (by kernel_rfl) (fun _ _ _ h => h) (Or.inl ⟨by rfl, ?hy38⟩) (by assumption) ?r38
                                  case hy38 => (intro w hSw; (try dsimp only at hSw); go_simp; try with_reducible rfl)
                                  (try simp only [Act.put, List.setIfInBounds_toArray, List.set_cons_zero, List.set_cons_succ])
                                  refine wpAnyH_take (i := 38) (oi := _) (v := .bool true) (by simp only [List.getElem?_toArray, List.getElem?_cons_succ, List.getElem?_cons_zero]; rfl) (by kernel_rfl) (by kernel_rfl) (by kernel_rfl) (fun _ _ _ h => h) (Or.inl ⟨by rfl, ?hy39⟩) (by assumption) ?r39
                                  case hy39 => (intro w hSw; (try dsimp only at hSw); go_simp; try with_reducible rfl)
                                  (try simp only [Act.put, List.setIfInBounds_toArray, List.set_cons_zero, List.set_cons_succ])
                                  refine wpAnyH_take (i := 39) (oi := _) (v := .bool true) (by simp only [List.getElem?_toArray, List.getElem?_cons_succ, List.getElem?_cons_zero]; rfl) (by kernel_rfl) (by kernel_rfl) (by kernel_rfl) (fun _ _ _ h => h) (Or.inl ⟨by rfl, ?hy40⟩) (by assumption) ?r40
                                  case hy40 => (intro w hSw; (try dsimp only at hSw); go_simp; try with_reducible rfl)
                                  (try simp only [Act.put, List.setIfInBounds_toArray, List.set_cons_zero, List.set_cons_succ])
                                  refine wpAnyH_take (i := 40) (oi := _) (v := ?v41) (by simp only [List.getElem?_toArray, List.getElem?_cons_succ, List.getElem?_cons_zero]; rfl) (by kernel_rfl) (by kernel_rfl) (by kernel_rfl) (fun _ _ _ h => h) (Or.inl ⟨by rfl, ?hy41⟩) (by assumption) ?r41
                                  case hy41 => (intro w hSw; (try dsimp only at hSw); go_simp; try with_reducible rfl)
                                  (try simp only [Act.put, List.setIfInBounds_toArray, List.set_cons_zero, List.set_cons_succ])
                                  refine wpAnyH_take (i := 41) (oi := _) (v := .bool true) (by simp only [List.getElem?_toArray, List.getElem?_cons_succ, List.getElem?_cons_zero]; rfl) (by kernel_rfl) (by kernel_rfl) (by kernel_rfl) (fun _ _ _ h => h) (Or.inl ⟨by rfl, ?hy42⟩) (by assumption) ?r42
                                  case hy42 => (intro w hSw; (try dsimp only at hSw); go_simp; try with_reducible rfl)
                                  (try simp only [Act.put, List.setIfInBounds_toArray, List.set_cons_zero, List.set_cons_succ])
                                  refine wpAnyH_take (i := 42) (oi := _) (v := .bool true) (by simp only [List.getElem?_toArray, List.getElem?_cons_succ, List.getElem?_cons_zero]; rfl) (by kernel_rfl) (by kernel_rfl) (by kernel_rfl) (fun _ _ _ h => h) (Or.inl ⟨by rfl, ?hy43⟩) (by assumption) ?r43
                                  case hy43 => (intro w hSw; (try dsimp only at hSw); go_simp; try with_reducible rfl)
                                  (try simp only [Act.put, List.setIfInBounds_toArray, List.set_cons_zero, List.set_cons_succ])
                                  refine wpAnyH_take (i := 43) (oi := _) (v := .bool true) (by simp only [List.getElem?_toArray, List.getElem?_cons_succ, List.getElem?_cons_zero]; rfl) (by kernel_rfl) (by kernel_rfl) (by kernel_rfl) (fun _ _ _ h => h) (Or.inl ⟨by rfl, ?hy44⟩) (by assumption) ?r44
                                  case hy44 => (intro w hSw; (try dsimp only at hSw); go_simp; try with_reducible rfl)
                                  (try simp only [Act.put, List.setIfInBounds_toArray, List.set_cons_zero, List.set_cons_succ])
                                  refine wpAnyH_take (i := 44) (oi := _) (v := ?v45) (by simp only [List.getElem?_toArray, List.getElem?_cons_succ, List.getElem?_cons_zero]; rfl) (by kernel_rfl) (by kernel_rfl) (by kernel_rfl) (fun _ _ _ h => h) (Or.inl ⟨by rfl, ?hy45⟩) (by assumption) ?r45
                                  case hy45 => (intro w hSw; (try dsimp only at hSw); go_simp; try with_reducible rfl)
                                  (try simp only [Act.put, List.setIfInBounds_toArray, List.set_cons_zero, List.set_cons_succ])
                                  refine wpAnyH_take (i := 45) (oi := _) (v := ?v46) (by simp only [List.getElem?_toArray, List.getElem?_cons_succ, List.getElem?_cons_zero]; rfl) (by kernel_rfl) (by kernel_rfl) (by kernel_rfl) (fun _ _ _ h => h) (Or.inl ⟨by rfl, ?hy46⟩) (by assumption) ?r46
                                  case hy46 => (intro w hSw; (try dsimp only at hSw); go_simp; try with_reducible rfl)
                                  (try simp only [Act.put, List.setIfInBounds_toArray, List.set_cons_zero, List.set_cons_succ])
                                  refine wpAnyH_take (i := 46) (oi := _) (v := ?v47) (by simp only [List.getElem?_toArray, List.getElem?_cons_succ, List.getElem?_cons_zero]; rfl) (by kernel_rfl) (by kernel_rfl) (by kernel_rfl) (fun _ _ _ h => h) (Or.inl ⟨by rfl, ?hy47⟩) (by assumption) ?r47
                                  case hy47 => (intro w hSw; (try dsimp only at hSw); go_simp; try with_reducible rfl)
                                  (try simp only [Act.put, List.setIfInBounds_toArray, List.set_cons_zero, List.set_cons_succ])
                                  refine wpAnyH_ready (rs := [47]) (by kernel_rfl) (by simp) ?_
                                  refine AllReadyH.cons (o := ?o48) ?ho48 (fun Kd hKd => ?st48) ?mo48
                                  case ho48 => (simp only [List.getElem?_toArray, List.getElem?_cons_succ, List.getElem?_cons_zero]; rfl)
                                  case mo48 => exact AllReadyH.nil
                                  case st48 =>
                                    go_simp
                                    (go_at_call 14; (with_reducible refine (of_qa.out _).mono ?_); rintro e W1 ⟨rfl, hb⟩; replace F := F.below hb; clear hb)
                                    (try go_wp2_with fail)
                                    refine hKd.out _ _ ?_ (fun hH2 => ?_)
                                    · ((try dsimp only); first | exact F.cells | exact F.cellsA _)
                                    clear hKd Kd hHeld
                                    have hHeld := hH2
                                    clear hH2
                                    (try simp only [Act.put, List.setIfInBounds_toArray, List.set_cons_zero, List.set_cons_succ])
                                    refine wpAnyH_ready (rs := [48]) (by kernel_rfl) (by simp) ?_
                                    refine AllReadyH.cons (o := ?o49) ?ho49 (fun Kd hKd => ?st49) ?mo49
                                    case ho49 => (simp only [List.getElem?_toArray, List.getElem?_cons_succ, List.getElem?_cons_zero]; rfl)
                                    case mo49 => exact AllReadyH.nil
                                    case st49 =>
                                      go_simp
                                      (go_at_call 14; (with_reducible refine (of_qb.out _).mono ?_); rintro e W1 ⟨rfl, hb⟩; replace F := F.below hb; clear hb)
                                      (try go_wp2_with fail)
                                      refine hKd.out _ _ ?_ (fun hH2 => ?_)
                                      · ((try dsimp only); first | exact F.cells | exact F.cellsA _)
                                      clear hKd Kd hHeld
                                      have hHeld := hH2
                                      clear hH2
                                      (try simp only [Act.put, List.setIfInBounds_toArray, List.set_cons_zero, List.set_cons_succ])
                                      refine wpAnyH_take (i := 49) (oi := _) (v := ?v50) (by simp only [List.getElem?_toArray, List.getElem?_cons_succ, List.getElem?_cons_zero]; rfl) (by kernel_rfl) (by kernel_rfl) (by kernel_rfl) (fun _ _ _ h => h) (Or.inl ⟨by rfl, ?hy50⟩) (by assumption) ?r50
                                      case hy50 => (intro w hSw; (try dsimp only at hSw); go_simp; try with_reducible rfl)
                                      (try simp only [Act.put, List.setIfInBounds_toArray, List.set_cons_zero, List.set_cons_succ])
                                      refine wpAnyH_take (i := 50) (oi := _) (v := .bool true) (by simp only [List.getElem?_toArray, List.getElem?_cons_succ, List.getElem?_cons_zero]; rfl) (by kernel_rfl) (by kernel_rfl) (by kernel_rfl) (fun _ _ _ h => h) (Or.inl ⟨by rfl, ?hy51⟩) (by assumption) ?r51
                                      case hy51 => (intro w hSw; (try dsimp only at hSw); go_simp; try with_reducible rfl)
                                      (try simp only [Act.put, List.setIfInBounds_toArray, List.set_cons_zero, List.set_cons_succ])
                                      as_aux_lemma =>
                                        refine wpAnyH_take (i := 51) (oi := _) (v := .bool true) (by simp only [List.getElem?_toArray, List.getElem?_cons_succ, List.getElem?_cons_zero]; rfl) (by kernel_rfl) (by kernel_rfl) (by kernel_rfl) (fun _ _ _ h => h) (Or.inl ⟨by rfl, ?hy52⟩) (by assumption) ?r52
                                        case hy52 => (intro w hSw; (try dsimp only at hSw); go_simp; try with_reducible rfl)
                                        (try simp only [Act.put, List.setIfInBounds_toArray, List.set_cons_zero, List.set_cons_succ])
                                        refine wpAnyH_take (i := 52) (oi := _) (v := .bool true) (by simp only [List.getElem?_toArray, List.getElem?_cons_succ, List.getElem?_cons_zero]; rfl) (by kernel_rfl) (by kernel_rfl) (by kernel_rfl) (fun _ _ _ h => h) (Or.inl ⟨by rfl, ?hy53⟩) (by assumption) ?r53
                                        case hy53 => (intro w hSw; (try dsimp only at hSw); go_simp; try with_reducible rfl)
                                        (try simp only [Act.put, List.setIfInBounds_toArray, List.set_cons_zero, List.set_cons_succ])
                                        refine wpAnyH_take (i := 53) (oi := _) (v := ?v54) (by simp only [List.getElem?_toArray, List.getElem?_cons_succ, List.getElem?_cons_zero]; rfl) (by kernel_rfl) (by kernel_rfl) (by kernel_rfl) (fun _ _ _ h => h) (Or.inl ⟨by rfl, ?hy54⟩) (by assumption) ?r54
                                        case hy54 => (intro w hSw; (try dsimp only at hSw); go_simp; try with_reducible rfl)
                                        (try simp only [Act.put, List.setIfInBounds_toArray, List.set_cons_zero, List.set_cons_succ])
                                        refine wpAnyH_take (i := 54) (oi := _) (v := ?v55) (by simp only [List.getElem?_toArray, List.getElem?_cons_succ, List.getElem?_cons_zero]; rfl) (by kernel_rfl) (by kernel_rfl) (by kernel_rfl) (fun _ _ _ h => h) (Or.inl ⟨by rfl, ?hy55⟩) (by assumption) ?r55
                                        case hy55 => (intro w hSw; (try dsimp only at hSw); go_simp; try with_reducible rfl)
                                        (try simp only [Act.put, List.setIfInBounds_toArray, List.set_cons_zero, List.set_cons_succ])
                                        refine wpAnyH_take (i := 55) (oi := _) (v := ?v56) (by simp only [List.getElem?_toArray, List.getElem?_cons_succ, List.getElem?_cons_zero]; rfl) (by kernel_rfl) (by kernel_rfl) (by kernel_rfl) (fun _ _ _ h => h) (Or.inl ⟨by rfl, ?hy56⟩) (by assumption) ?r56
                                        case hy56 => (intro w hSw; (try dsimp only at hSw); go_simp; try with_reducible rfl)
                                        (try simp only [Act.put, List.setIfInBounds_toArray, List.set_cons_zero, List.set_cons_succ])
                                        refine wpAnyH_ready (rs := [56]) (by kernel_rfl) (by simp) ?_
                                        refine AllReadyH.cons (o := ?o57) ?ho57 (fun Kd hKd => ?st57) ?mo57
                                        case ho57 => (simp only [List.getElem?_toArray, List.getElem?_cons_succ, List.getElem?_cons_zero]; rfl)
                                        case mo57 => exact AllReadyH.nil
                                        case st57 =>
                                          go_simp
                                          (go_at_call 14; (with_reducible refine (of_q0.out _).mono ?_); rintro e W1 ⟨rfl, hb⟩; replace F := F.below hb; clear hb)
                                          (try go_wp2_with fail)
                                          refine hKd.out _ _ ?_ (fun hH2 => ?_)
                                          · ((try dsimp only); first | exact F.cells | exact F.cellsA _)
                                          clear hKd Kd hHeld
                                          have hHeld := hH2
                                          clear hH2
                                          (try simp only [Act.put, List.setIfInBounds_toArray, List.set_cons_zero, List.set_cons_succ])
                                          refine wpAnyH_ready (rs := [57]) (by kernel_rfl) (by simp) ?_
                                          refine AllReadyH.cons (o := ?o58) ?ho58 (fun Kd hKd => ?st58) ?mo58
                                          case ho58 => (simp only [List.getElem?_toArray, List.getElem?_cons_succ, List.getElem?_cons_zero]; rfl)
                                          case mo58 => exact AllReadyH.nil
                                          case st58 =>
                                            go_simp
                                            (go_at_call 14; (with_reducible refine (of_q0.out _).mono ?_); rintro e W1 ⟨rfl, hb⟩; replace F := F.below hb; clear hb)
                                            (try go_wp2_with fail)
                                            refine hKd.out _ _ ?_ (fun hH2 => ?_)
                                            · ((try dsimp only); first | exact F.cells | exact F.cellsA _)
                                            clear hKd Kd hHeld
                                            have hHeld := hH2
                                            clear hH2
                                            (try simp only [Act.put, List.setIfInBounds_toArray, List.set_cons_zero, List.set_cons_succ])
                                            refine wpAnyH_take (i := 58) (oi := _) (v := ?v59) (by simp only [List.getElem?_toArray, List.getElem?_cons_succ, List.getElem?_cons_zero]; rfl) (by kernel_rfl) (by kernel_rfl) (by kernel_rfl) (fun _ _ _ h => h) (Or.inl ⟨by rfl, ?hy59⟩) (by assumption) ?r59
                                            case hy59 => (intro w hSw; (try dsimp only at hSw); go_simp; try with_reducible rfl)
                                            (try simp only [Act.put, List.setIfInBounds_toArray, List.set_cons_zero, List.set_cons_succ])
                                            refine wpAnyH_take (i := 59) (oi := _) (v := .bool true) (by simp only [List.getElem?_toArray, List.getElem?_cons_succ, List.getElem?_cons_zero]; rfl) (by kernel_rfl) (by kernel_rfl) (by kernel_rfl) (fun _ _ _ h => h) (Or.inl ⟨by rfl, ?hy60⟩) (by assumption) ?r60
                                            case hy60 => (intro w hSw; (try dsimp only at hSw); go_simp; try with_reducible rfl)
                                            (try simp only [Act.put, List.setIfInBounds_toArray, List.set_cons_zero, List.set_cons_succ])
                                            refine wpAnyH_take (i := 60) (oi := _) (v := .bool true) (by simp only [List.getElem?_toArray, List.getElem?_cons_succ, List.getElem?_cons_zero]; rfl) (by kernel_rfl) (by kernel_rfl) (by kernel_rfl) (fun _ _ _ h => h) (Or.inl ⟨by rfl, ?hy61⟩) (by assumption) ?r61
                                            case hy61 => (intro w hSw; (try dsimp only at hSw); go_simp; try with_reducible rfl)
                                            (try simp only [Act.put, List.setIfInBounds_toArray, List.set_cons_zero, List.set_cons_succ])
                                            refine wpAnyH_take (i := 61) (oi := _) (v := .bool true) (by simp only [List.getElem?_toArray, List.getElem?_cons_succ, List.getElem?_cons_zero]; rfl) (by kernel_rfl) (by kernel_rfl) (by kernel_rfl) (fun _ _ _ h => h) (Or.inl ⟨by rfl, ?hy62⟩) (by assumption) ?r62
                                            case hy62 => (intro w hSw; (try dsimp only at hSw); go_simp; try with_reducible rfl)
                                            (try simp only [Act.put, List.setIfInBounds_toArray, List.set_cons_zero, List.set_cons_succ])
                                            refine wpAnyH_take (i := 62) (oi := _) (v := ?v63) (by simp only [List.getElem?_toArray, List.getElem?_cons_succ, List.getElem?_cons_zero]; rfl) (by kernel_rfl) (by kernel_rfl) (by kernel_rfl) (fun _ _ _ h => h) (Or.inl ⟨by rfl, ?hy63⟩) (by assumption) ?r63
                                            case hy63 => (intro w hSw; (try dsimp only at hSw); go_simp; try with_reducible rfl)
                                            (try simp only [Act.put, List.setIfInBounds_toArray, List.set_cons_zero, List.set_cons_succ])
                                            refine wpAnyH_take (i := 63) (oi := _) (v := ?v64) (by simp only [List.getElem?_toArray, List.getElem?_cons_succ, List.getElem?_cons_zero]; rfl) (by kernel_rfl) (by kernel_rfl) (by kernel_rfl) (fun _ _ _ h => h) (Or.inl ⟨by rfl, ?hy64⟩) (by assumption) ?r64
                                            case hy64 => (intro w hSw; (try dsimp only at hSw); go_simp; try with_reducible rfl)
                                            (try simp only [Act.put, List.setIfInBounds_toArray, List.set_cons_zero, List.set_cons_succ])
                                            refine wpAnyH_take (i := 64) (oi := _) (v := ?v65) (by simp only [List.getElem?_toArray, List.getElem?_cons_succ, List.getElem?_cons_zero]; rfl) (by kernel_rfl) (by kernel_rfl) (by kernel_rfl) (fun _ _ _ h => h) (Or.inl ⟨by rfl, ?hy65⟩) (by assumption) ?r65
                                            case hy65 => (intro w hSw; (try dsimp only at hSw); go_simp; try with_reducible rfl)
                                            (try simp only [Act.put, List.setIfInBounds_toArray, List.set_cons_zero, List.set_cons_succ])
                                            refine wpAnyH_ready (rs := [65]) (by kernel_rfl) (by simp) ?_
                                            refine AllReadyH.cons (o := ?o66) ?ho66 (fun Kd hKd => ?st66) ?mo66
                                            case ho66 => (simp only [List.getElem?_toArray, List.getElem?_cons_succ, List.getElem?_cons_zero]; rfl)
                                            case mo66 => exact AllReadyH.nil
                                            case st66 =>
                                              go_simp
                                              (go_at_call 14; (with_reducible refine (of_q1.out _).mono ?_); rintro e W1 ⟨rfl, hb⟩; replace F := F.below hb; clear hb)
                                              (try go_wp2_with fail)
                                              refine hKd.out _ _ ?_ (fun hH2 => ?_)
                                              · ((try dsimp only); first | exact F.cells | exact F.cellsA _)
                                              clear hKd Kd hHeld
                                              have hHeld := hH2
                                              clear hH2
                                              (try simp only [Act.put, List.setIfInBounds_toArray, List.set_cons_zero, List.set_cons_succ])
                                              refine wpAnyH_ready (rs := [66]) (by kernel_rfl) (by simp) ?_
                                              refine AllReadyH.cons (o := ?o67) ?ho67 (fun Kd hKd => ?st67) ?mo67
                                              case ho67 => (simp only [List.getElem?_toArray, List.getElem?_cons_succ, List.getElem?_cons_zero]; rfl)
                                              case mo67 => exact AllReadyH.nil
                                              case st67 =>
                                                go_simp
                                                (go_at_call 14; (with_reducible refine (of_q1.out _).mono ?_); rintro e W1 ⟨rfl, hb⟩; replace F := F.below hb; clear hb)
                                                (try go_wp2_with fail)
                                                refine hKd.out _ _ ?_ (fun hH2 => ?_)
                                                · ((try dsimp only); first | exact F.cells | exact F.cellsA _)
                                                clear hKd Kd hHeld
                                                have hHeld := hH2
                                                clear hH2
                                                (try simp only [Act.put, List.setIfInBounds_toArray, List.set_cons_zero, List.set_cons_succ])
                                                refine wpAnyH_take (i := 67) (oi := _) (v := ?v68) (by simp only [List.getElem?_toArray, List.getElem?_cons_succ, List.getElem?_cons_zero]; rfl) (by kernel_rfl) (by kernel_rfl) (by kernel_rfl) (fun _ _ _ h => h) (Or.inl ⟨by rfl, ?hy68⟩) (by assumption) ?r68
                                                case hy68 => (intro w hSw; (try dsimp only at hSw); go_simp; try with_reducible rfl)
                                                (try simp only [Act.put, List.setIfInBounds_toArray, List.set_cons_zero, List.set_cons_succ])
                                                refine wpAnyH_take (i := 68) (oi := _) (v := .bool true) (by simp only [List.getElem?_toArray, List.getElem?_cons_succ, List.getElem?_cons_zero]; rfl) (by kernel_rfl) (by kernel_rfl) (by kernel_rfl) (fun _ _ _ h => h) (Or.inl ⟨by rfl, ?hy69⟩) (by assumption) ?r69
                                                case hy69 => (intro w hSw; (try dsimp only at hSw); go_simp; try with_reducible rfl)
                                                (try simp only [Act.put, List.setIfInBounds_toArray, List.set_cons_zero, List.set_cons_succ])
                                                refine wpAnyH_take (i := 69) (oi := _) (v := .bool true) (by simp only [List.getElem?_toArray, List.getElem?_cons_succ, List.getElem?_cons_zero]; rfl) (by kernel_rfl) (by kernel_rfl) (by kernel_rfl) (fun _ _ _ h => h) (Or.inl ⟨by rfl, ?hy70⟩) (by assumption) ?r70
                                                case hy70 => (intro w hSw; (try dsimp only at hSw); go_simp; try with_reducible rfl)
                                                (try simp only [Act.put, List.setIfInBounds_toArray, List.set_cons_zero, List.set_cons_succ])
                                                refine wpAnyH_take (i := 70) (oi := _) (v := .bool true) (by simp only [List.getElem?_toArray, List.getElem?_cons_succ, List.getElem?_cons_zero]; rfl) (by kernel_rfl) (by kernel_rfl) (by kernel_rfl) (fun _ _ _ h => h) (Or.inl ⟨by rfl, ?hy71⟩) (by assumption) ?r71
                                                case hy71 => (intro w hSw; (try dsimp only at hSw); go_simp; try with_reducible rfl)
                                                (try simp only [Act.put, List.setIfInBounds_toArray, List.set_cons_zero, List.set_cons_succ])
                                                refine wpAnyH_take (i := 71) (oi := _) (v := ?v72) (by simp only [List.getElem?_toArray, List.getElem?_cons_succ, List.getElem?_cons_zero]; rfl) (by kernel_rfl) (by kernel_rfl) (by kernel_rfl) (fun _ _ _ h => h) (Or.inl ⟨by rfl, ?hy72⟩) (by assumption) ?r72
                                                case hy72 => (intro w hSw; (try dsimp only at hSw); go_simp; try with_reducible rfl)
                                                (try simp only [Act.put, List.setIfInBounds_toArray, List.set_cons_zero, List.set_cons_succ])
                                                refine wpAnyH_ready (rs := [72]) (by kernel_rfl) (by simp) ?_
                                                refine AllReadyH.cons (o := ?o73) ?ho73 (fun Kd hKd => ?st73) ?mo73
                                                case ho73 => (simp only [List.getElem?_toArray, List.getElem?_cons_succ, List.getElem?_cons_zero]; rfl)
                                                case mo73 => exact AllReadyH.nil
                                                case st73 =>
                                                  go_simp
                                                  (go_at_call 14; (with_reducible refine (of_qc.out _).mono ?_); rintro e W1 ⟨rfl, hb⟩; replace F := F.below hb; clear hb)
                                                  (try go_wp2_with fail)
                                                  refine hKd.out _ _ ?_ (fun hH2 => ?_)
                                                  · ((try dsimp only); first | exact F.cells | exact F.cellsA _)
                                                  clear hKd Kd hHeld
                                                  have hHeld := hH2
                                                  clear hH2
                                                  (try simp only [Act.put, List.setIfInBounds_toArray, List.set_cons_zero, List.set_cons_succ])
                                                  refine wpAnyH_take (i := 73) (oi := _) (v := .bool true) (by simp only [List.getElem?_toArray, List.getElem?_cons_succ, List.getElem?_cons_zero]; rfl) (by kernel_rfl) (by kernel_rfl) (by kernel_rfl) (fun _ _ _ h => h) (Or.inl ⟨by rfl, ?hy74⟩) (by assumption) ?r74
                                                  case hy74 => (intro w hSw; (try dsimp only at hSw); go_simp; try with_reducible rfl)
                                                  (try simp only [Act.put, List.setIfInBounds_toArray, List.set_cons_zero, List.set_cons_succ])
                                                  refine wpAnyH_take (i := 74) (oi := _) (v := .bool true) (by simp only [List.getElem?_toArray, List.getElem?_cons_succ, List.getElem?_cons_zero]; rfl) (by kernel_rfl) (by kernel_rfl) (by kernel_rfl) (fun _ _ _ h => h) (Or.inl ⟨by rfl, ?hy75⟩) (by assumption) ?r75
                                                  case hy75 => (intro w hSw; (try dsimp only at hSw); go_simp; try with_reducible rfl)
                                                  (try simp only [Act.put, List.setIfInBounds_toArray, List.set_cons_zero, List.set_cons_succ])
                                                  refine wpAnyH_take (i := 75) (oi := _) (v := .bool true) (by simp only [List.getElem?_toArray, List.getElem?_cons_succ, List.getElem?_cons_zero]; rfl) (by kernel_rfl) (by kernel_rfl) (by kernel_rfl) (fun _ _ _ h => h) (Or.inl ⟨by rfl, ?hy76⟩) (by assumption) ?r76
                                                  case hy76 => (intro w hSw; (try dsimp only at hSw); go_simp; try with_reducible rfl)
                                                  (try simp only [Act.put, List.setIfInBounds_toArray, List.set_cons_zero, List.set_cons_succ])
                                                  refine wpAnyH_ready (rs := [76]) (by kernel_rfl) (by simp) ?_
                                                  refine AllReadyH.cons (o := ?o77) ?ho77 (fun Kd hKd => ?st77) ?mo77
                                                  case ho77 => (simp only [List.getElem?_toArray, List.getElem?_cons_succ, List.getElem?_cons_zero]; rfl)
                                                  case mo77 => exact AllReadyH.nil
                                                  case st77 =>
                                                    go_simp
                                                    (go_at_call 43; (with_reducible refine (c_v0.out _ (HL0.out.below F.low)).mono ?_); rintro e W1 ⟨rfl, hb⟩; replace F := F.below hb; clear hb)
                                                    (try go_wp2_with fail)
                                                    refine hKd.out _ _ ?_ (fun hH2 => ?_)
                                                    · ((try dsimp only); first | exact F.cells | exact F.cellsA _)
                                                    clear hKd Kd hHeld
                                                    have hHeld := hH2
                                                    clear hH2
                                                    (try simp only [Act.put, List.setIfInBounds_toArray, List.set_cons_zero, List.set_cons_succ])
                                                    refine wpAnyH_take (i := 77) (oi := _) (v := .bool true) (by simp only [List.getElem?_toArray, List.getElem?_cons_succ, List.getElem?_cons_zero]; rfl) (by kernel_rfl) (by kernel_rfl) (by kernel_rfl) (fun _ _ _ h => h) (Or.inl ⟨by rfl, ?hy78⟩) (by assumption) ?r78
                                                    case hy78 => (intro w hSw; (try dsimp only at hSw); go_simp; try with_reducible rfl)
                                                    (try simp only [Act.put, List.setIfInBounds_toArray, List.set_cons_zero, List.set_cons_succ])
                                                    refine wpAnyH_take (i := 78) (oi := _) (v := .bool true) (by simp only [List.getElem?_toArray, List.getElem?_cons_succ, List.getElem?_cons_zero]; rfl) (by kernel_rfl) (by kernel_rfl) (by kernel_rfl) (fun _ _ _ h => h) (Or.inl ⟨by rfl, ?hy79⟩) (by assumption) ?r79
                                                    case hy79 => (intro w hSw; (try dsimp only at hSw); go_simp; try with_reducible rfl)
                                                    (try simp only [Act.put, List.setIfInBounds_toArray, List.set_cons_zero, List.set_cons_succ])
                                                    as_aux_lemma =>
                                                      refine wpAnyH_ready (rs := [79]) (by kernel_rfl) (by simp) ?_
                                                      refine AllReadyH.cons (o := ?o80) ?ho80 (fun Kd hKd => ?st80) ?mo80
                                                      case ho80 => (simp only [List.getElem?_toArray, List.getElem?_cons_succ, List.getElem?_cons_zero]; rfl)
                                                      case mo80 => exact AllReadyH.nil
                                                      case st80 =>
                                                        go_simp
                                                        refine hKd.out _ _ ?_ (fun hH2 => ?_)
                                                        · ((try dsimp only); first | exact F.cells | exact F.cellsA _)
                                                        clear hKd Kd hHeld
                                                        have hHeld := hH2
                                                        clear hH2
                                                        (try simp only [Act.put, List.setIfInBounds_toArray, List.set_cons_zero, List.set_cons_succ])
                                                        refine wpAnyH_ready (rs := [80]) (by kernel_rfl) (by simp) ?_
                                                        refine AllReadyH.cons (o := ?o81) ?ho81 (fun Kd hKd => ?st81) ?mo81
                                                        case ho81 => (simp only [List.getElem?_toArray, List.getElem?_cons_succ, List.getElem?_cons_zero]; rfl)
                                                        case mo81 => exact AllReadyH.nil
                                                        case st81 =>
                                                          go_simp
                                                          (go_at_call 45; (with_reducible refine (in_P.out _).mono ?_); rintro e W1 ⟨xP, rfl, hP, hb⟩; replace F := F.below hb; clear hb)
                                                          (try go_wp2_with fail)
                                                          refine hKd.out _ _ ?_ (fun hH2 => ?_)
                                                          · ((try dsimp only); first | exact F.cells | exact F.cellsA _)
                                                          clear hKd Kd hHeld
                                                          have hHeld := hH2
                                                          clear hH2
                                                          (try simp only [Act.put, List.setIfInBounds_toArray, List.set_cons_zero, List.set_cons_succ])
                                                          refine wpAnyH_ready (rs := [81]) (by kernel_rfl) (by simp) ?_
                                                          refine AllReadyH.cons (o := ?o82) ?ho82 (fun Kd hKd => ?st82) ?mo82
                                                          case ho82 => (simp only [List.getElem?_toArray, List.getElem?_cons_succ, List.getElem?_cons_zero]; rfl)
                                                          case mo82 => exact AllReadyH.nil
                                                          case st82 =>
                                                            go_simp
                                                            (go_at_call 43; (with_reducible refine (c_v1.out _ _ hP (HL0.out.below F.low)).mono ?_); rintro e W1 ⟨rfl, hb⟩; replace F := F.below hb; clear hb)
                                                            (try go_wp2_with fail)
                                                            refine hKd.out _ _ ?_ (fun hH2 => ?_)
                                                            · ((try dsimp only); first | exact F.cells | exact F.cellsA _)
                                                            clear hKd Kd hHeld
                                                            have hHeld := hH2
                                                            clear hH2
                                                            (try simp only [Act.put, List.setIfInBounds_toArray, List.set_cons_zero, List.set_cons_succ])
                                                            refine wpAnyH_take (i := 82) (oi := _) (v := .bool true) (by simp only [List.getElem?_toArray, List.getElem?_cons_succ, List.getElem?_cons_zero]; rfl) (by kernel_rfl) (by kernel_rfl) (by kernel_rfl) (fun _ _ _ h => h) (Or.inl ⟨by rfl, ?hy83⟩) (by assumption) ?r83
                                                            case hy83 => (intro w hSw; (try dsimp only at hSw); go_simp; try with_reducible rfl)
                                                            (try simp only [Act.put, List.setIfInBounds_toArray, List.set_cons_zero, List.set_cons_succ])
                                                            refine wpAnyH_take (i := 83) (oi := _) (v := .bool true) (by simp only [List.getElem?_toArray, List.getElem?_cons_succ, List.getElem?_cons_zero]; rfl) (by kernel_rfl) (by kernel_rfl) (by kernel_rfl) (fun _ _ _ h => h) (Or.inl ⟨by rfl, ?hy84⟩) (by assumption) ?r84
                                                            case hy84 => (intro w hSw; (try dsimp only at hSw); go_simp; try with_reducible rfl)
                                                            (try simp only [Act.put, List.setIfInBounds_toArray, List.set_cons_zero, List.set_cons_succ])
                                                            refine wpAnyH_take (i := 84) (oi := _) (v := .bool true) (by simp only [List.getElem?_toArray, List.getElem?_cons_succ, List.getElem?_cons_zero]; rfl) (by kernel_rfl) (by kernel_rfl) (by kernel_rfl) (fun _ _ _ h => h) (Or.inl ⟨by rfl, ?hy85⟩) (by assumption) ?r85
                                                            case hy85 => (intro w hSw; (try dsimp only at hSw); go_simp; try with_reducible rfl)
                                                            (try simp only [Act.put, List.setIfInBounds_toArray, List.set_cons_zero])
                                                            refine wpAnyH_done (by kernel_rfl) ?_ _
                                                            refine NoPanic.normal ?_
                                                            exact hKK _ _ F.low

end Go.Proofs.YtffndcjmabjhiaaGreatDoor
