/- The end of the walk of workpiecelaw07's sane, its conditions first. Conditions: none. -/
import Derived.Test.YtffndcjmabjhiaaGreatDoorM17
namespace Go.Proofs.YtffndcjmabjhiaaGreatDoor
open Go.RowKit Num
open Go.Shelf

set_option maxHeartbeats 4000000 in
set_option maxRecDepth 100000 in
theorem sane_fin {q0 q1 qa qb qc : Rat} {pK pL pM pN pO pP : List Rat}
    (of_q0 : Hid (∀ (w : World), Calls Tryz.prog 14 #[.int .i64 0, .int .i64 1] w (RetR w q0)))
    (of_q1 : Hid (∀ (w : World), Calls Tryz.prog 14 #[.int .i64 1, .int .i64 1] w (RetR w q1)))
    (of_qa : Hid (∀ (w : World), Calls Tryz.prog 14 #[.int .i64 11, .int .i64 8] w (RetR w qa)))
    (of_qb : Hid (∀ (w : World), Calls Tryz.prog 14 #[.int .i64 23, .int .i64 16] w (RetR w qb)))
    (of_qc : Hid (∀ (w : World), Calls Tryz.prog 14 #[.int .i64 17, .int .i64 1] w (RetR w qc)))
    (in_K : Hid (∀ (w : World), Calls Tryz.prog 45 #[.slice (some ⟨w.heap.size, 0, none⟩) 3 3] (w.alloc (.cells #[.int .i64 1, .int .i64 0, .int .i64 (-1)] 3)) (RetIn w pK)))
    (in_L : Hid (∀ (w : World), Calls Tryz.prog 45 #[.slice (some ⟨w.heap.size, 0, none⟩) 2 2] (w.alloc (.cells #[.int .i64 2, .int .i64 1] 3)) (RetIn w pL)))
    (in_M : Hid (∀ (w : World), Calls Tryz.prog 45 #[.slice (some ⟨w.heap.size, 0, none⟩) 1 1] (w.alloc (.cells #[.int .i64 3] 3)) (RetIn w pM)))
    (in_N : Hid (∀ (w : World), Calls Tryz.prog 45 #[.slice (some ⟨w.heap.size, 0, none⟩) 2 2] (w.alloc (.cells #[.int .i64 (-1), .int .i64 1] 3)) (RetIn w pN)))
    (in_O : Hid (∀ (w : World), Calls Tryz.prog 45 #[.slice (some ⟨w.heap.size, 0, none⟩) 3 3] (w.alloc (.cells #[.int .i64 0, .int .i64 0, .int .i64 3] 3)) (RetIn w pO)))
    (in_P : Hid (∀ (w : World), Calls Tryz.prog 45 #[.slice (some ⟨w.heap.size, 0, none⟩) 2 2] (w.alloc (.cells #[.int .i64 1, .int .i64 0] 3)) (RetIn w pP)))
    (c_same : Hid (∀ (p : List Rat) (w : World) (v u : Value), Pv w v p → Pv w u p → Calls Tryz.prog 46 #[v, u] w (RetB w true)))
    (c_v0 : Hid (∀ (w : World), Laid w → Calls Tryz.prog 43 #[.slice none 0 0] w (RetB w true)))
    (c_v1 : Hid (∀ (w : World) (v : Value), Pv w v pP → Laid w → Calls Tryz.prog 43 #[v] w (RetB w false)))
    (w wc : World) (HL0 : Hid (Laid w)) (low : Below w.heap.size w wc) {s1 s3 s4 s6 s8 : Value} {g1 n1 g2 n2 gx : Nat} (hra : Pv wc s1 pK) (hrq : Pv wc s3 pL) (hrr : Pv wc s4 pM) (hrg : Pv wc s6 pN) (hrd : Pv wc s8 pO)
    (hm1 : Cl wc g1 [.string (numT (some qa)), .string (denT (some qa)), .string (numT (some qb)), .string (denT (some qb))]) (hm2 : Cl wc g2 [.string (numT (some q0)), .string (denT (some q0)), .string (numT (some q0)), .string (denT (some q0)), .string (numT (some q1)), .string (denT (some q1)), .string (numT (some q1)), .string (denT (some q1))]) (hmx : Cl wc gx [.string (numT (some qc)), .string (denT (some qc))])
    {u24 u25 u26 u27 u28 u29 u30 u31 u32 u33 u34 u35 u36 u37 u38 u39 u40 u41 u42 u43 u44 u45 u46 u47 u48 u49 u50 u51 u52 u53 u54 u55 u56 u57 u58 u59 u60 u61 u62 u63 u64 u65 u66 u67 u68 u69 u70 u71 u72 u73 u74 u75 u76 u77 u78 u79 u80 u81 u82 u83 u84 u85 u86 u87 u88 u89 u90 u91 u92 u93 u94 u95 u96 u97 u98 u99 u100 u101 u102 u103 u104 u105 u106 u107 u108 u109 u110 u111 u112 u113 u114 u115 u116 u117 u118 u119 u120 u121 u122 u123 u124 u125 u126 u127 u128 u129 u130 u131 u132 u133 u134 u135 u136 u137 u138 u139 u140 u141 u142 u143 u144 u145 u146 u147 u148 u149 u150 u151 u152 u153 u154 u155 u156 u157 u158 u159 u160 u161 u162 u163 u164 u165 u166 u167 u168 u169 u170 u171 u172 u173 u174 u175 u176 u177 u178 u179 u180 u181 u182 u183 u184 u185 u186 u187 u188 u189 u190 u191 u192 u193 u194 u195 u196 u197 u198 u199 u200 u201 u202 u203 u204 u205 u206 u207 u208 u209 u210 u211 u212 u213 u214 u215 u216 u217 u218 u219 u220 u221 u222 u223 u224 u225 u226 u227 u228 u229 u230 u231 u232 u233 u234 u235 u236 u237 u238 u239 u240 u241 u242 : Value} :
    saneTail.wp Tryz.prog (bodyPost Tryz.prog Tryz.f11 (RetB w true)) { tmps := #[.bool false, s1, .int .i64 0, s3, s4, .int .i64 0, s6, .int .i64 0, s8, .int .i64 0, .int .i64 1, .int .i64 0, .int .i64 2, .int .i64 0, .int .i64 1, .int .i64 0, .slice (some ⟨g1, 0, none⟩) 1 n1, .int .i64 0, .slice (some ⟨g2, 0, none⟩) 2 n2, .int .i64 0, .int .i64 0, .int .i64 70, .pointer (some ⟨gx, 0, none⟩), .int .i64 0, u24, u25, u26, u27, u28, u29, u30, u31, u32, u33, u34, u35, u36, u37, u38, u39, u40, u41, u42, u43, u44, u45, u46, u47, u48, u49, u50, u51, u52, u53, u54, u55, u56, u57, u58, u59, u60, u61, u62, u63, u64, u65, u66, u67, u68, u69, u70, u71, u72, u73, u74, u75, u76, u77, u78, u79, u80, u81, u82, u83, u84, u85, u86, u87, u88, u89, u90, u91, u92, u93, u94, u95, u96, u97, u98, u99, u100, u101, u102, u103, u104, u105, u106, u107, u108, u109, u110, u111, u112, u113, u114, u115, u116, u117, u118, u119, u120, u121, u122, u123, u124, u125, u126, u127, u128, u129, u130, u131, u132, u133, u134, u135, u136, u137, u138, u139, u140, u141, u142, u143, u144, u145, u146, u147, u148, u149, u150, u151, u152, u153, u154, u155, u156, u157, u158, u159, u160, u161, u162, u163, u164, u165, u166, u167, u168, u169, u170, u171, u172, u173, u174, u175, u176, u177, u178, u179, u180, u181, u182, u183, u184, u185, u186, u187, u188, u189, u190, u191, u192, u193, u194, u195, u196, u197, u198, u199, u200, u201, u202, u203, u204, u205, u206, u207, u208, u209, u210, u211, u212, u213, u214, u215, u216, u217, u218, u219, u220, u221, u222, u223, u224, u225, u226, u227, u228, u229, u230, u231, u232, u233, u234, u235, u236, u237, u238, u239, u240, u241, u242], defers := [] } wc := by
  dsimp only [saneTail, tailC, Tryz.f11, Option.getD]
  go_wp2_with fail
  refine sane_end of_q0 of_q1 of_qa of_qb of_qc in_K in_L in_M in_N in_O in_P c_same c_v0 c_v1 w _ HL0 low hra hrq hrr hrg hrd hm1 hm2 hmx (fun l w' hb => ?_)
  go_wp2
  go_ret
  exact ⟨rfl, hb⟩

end Go.Proofs.YtffndcjmabjhiaaGreatDoor
