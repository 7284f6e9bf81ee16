/- Package rational: Mul and Div. Conditions: sizes; the tables of strconv. Package rational: what Mul and Div answer. Conditions: sizes; the tables of strconv. Package rational: sum. Conditions: sizes; the tables of strconv. Package rational: Add and Sub. Conditions: sizes; the tables of strconv. -/
import Derived.Test.YtffndcjmabjhiaaGreatDoorK7
import Derived.Deep.RegionHeld3
namespace Go.Proofs.YtffndcjmabjhiaaGreatDoor
open Go.RowKit Num
open Go.Shelf

/-- The boxes of a function of two fractions: both, the result, the calculation. -/
structure Five (w W : World) (a1 a2 b1 b2 : ByteArray) (b : Bool) : Prop where
  a : RB W w.heap.size a1 a2
  b' : RB W (w.heap.size + 1) b1 b2
  r : RB W (w.heap.size + 1 + 1) ⟨#[]⟩ ⟨#[]⟩
  k : WB W (w.heap.size + 1 + 1 + 1) b
  low : Below w.heap.size w W
def five0 (w : World) (a1 a2 b1 b2 : ByteArray) : World :=
  ((((w.alloc (.cells #[.string a1, .string a2] 29)).alloc (.cells #[.string b1, .string b2] 29)).alloc (.cells #[.string ⟨#[]⟩, .string ⟨#[]⟩] 29)).alloc (.cells #[.bool false] 201)).alloc (.cells #[.string a1, .string a2, .string b1, .string b2] 29)
theorem five_start (w : World) (a1 a2 b1 b2 : ByteArray) : Five w (five0 w a1 a2 b1 b2) a1 a2 b1 b2 false := by
  unfold five0
  refine ⟨?_, ?_, ?_, ?_, ?_⟩
  · exact ((((RB.new w a1 a2).below (below1 _ _)).below (below1 _ _)).below (below1 _ _)).below (below1 _ _)
  · have h := RB.new (w.alloc (.cells #[.string a1, .string a2] 29)) b1 b2
    rw [World.size_alloc] at h
    exact ((h.below (below1 _ _)).below (below1 _ _)).below (below1 _ _)
  · have h := RB.new ((w.alloc (.cells #[.string a1, .string a2] 29)).alloc (.cells #[.string b1, .string b2] 29)) ⟨#[]⟩ ⟨#[]⟩
    rw [World.size_alloc, World.size_alloc] at h
    exact (h.below (below1 _ _)).below (below1 _ _)
  · have h := WB.new (((w.alloc (.cells #[.string a1, .string a2] 29)).alloc (.cells #[.string b1, .string b2] 29)).alloc (.cells #[.string ⟨#[]⟩, .string ⟨#[]⟩] 29)) false
    rw [World.size_alloc, World.size_alloc, World.size_alloc] at h
    exact h.below (below1 _ _)
  · exact below_up (below1 _ _) (below_up (below1 _ _) (below_up (below1 _ _) (below_up (below1 _ _) (below1 _ _))))
theorem row_new (W : World) (a1 a2 b1 b2 : ByteArray) : RowQ (W.alloc (.cells #[.string a1, .string a2, .string b1, .string b2] 29)) W.heap.size [(a1, a2), (b1, b2)] := by
  intro i h
  have hi : i = 0 ∨ i = 1 := by simp at h; omega
  rcases hi with rfl | rfl
  · exact ⟨by simp, by simp⟩
  · exact ⟨by simp, by simp⟩
theorem five_row (w : World) (a1 a2 b1 b2 : ByteArray) : RowQ (five0 w a1 a2 b1 b2) (w.heap.size + 1 + 1 + 1 + 1) [(a1, a2), (b1, b2)] := by
  have h := row_new ((((w.alloc (.cells #[.string a1, .string a2] 29)).alloc (.cells #[.string b1, .string b2] 29)).alloc (.cells #[.string ⟨#[]⟩, .string ⟨#[]⟩] 29)).alloc (.cells #[.bool false] 201)) a1 a2 b1 b2
  rw [World.size_alloc, World.size_alloc, World.size_alloc, World.size_alloc] at h
  exact h
theorem Five.turn {w W W' : World} {a1 a2 b1 b2 : ByteArray} {b c : Bool} (h : Five w W a1 a2 b1 b2 b) (ht : Turn [w.heap.size + 1 + 1 + 1] W W') (hw : WB W' (w.heap.size + 1 + 1 + 1) c) : Five w W' a1 a2 b1 b2 c :=
  ⟨h.a.turn ht (by rw [List.mem_singleton]; omega), h.b'.turn ht (by rw [List.mem_singleton]; omega), h.r.turn ht (by rw [List.mem_singleton]; omega), hw, below_turn h.low ht (by omega)⟩

set_option maxHeartbeats 4000000 in
set_option maxRecDepth 100000 in
theorem qmul_walk (a1 a2 b1 b2 s1 s2 : ByteArray) (β0 β1 β2 : Bool) (o : Option Rat) (w : World) (hL : Laid w) (hβ : stB false [(a1, a2), (b1, b2)] 2 = β0)
    (M1 : ∀ p W, WB W p β0 → Laid W → Calls Tryz.prog 176 #[.pointer (some ⟨p, 0, none⟩), .string a1, .string b1] W (RetWk W p s1 β1))
    (M2 : ∀ p W, WB W p β1 → Laid W → Calls Tryz.prog 176 #[.pointer (some ⟨p, 0, none⟩), .string a2, .string b2] W (RetWk W p s2 β2))
    (RD : ∀ p W, WB W p β2 → Below w.heap.size w W → w.heap.size ≤ p → Calls Tryz.prog 152 #[.pointer (some ⟨p, 0, none⟩), .string s1, .string s2] W (RetQW W p o)) :
    Calls Tryz.prog 107 #[.agg #[.string a1, .string a2], .agg #[.string b1, .string b2]] w (RetQ w o) := by
  have HL := Lib.hid hL
  have H1 := Lib.hid M1
  have H2 := Lib.hid M2
  have HR := Lib.hid RD
  have CK := Lib.hid (check_any w [(a1, a2), (b1, b2)] (by simp) (w.heap.size + 1 + 1 + 1 + 1) (w.heap.size + 1 + 1 + 1) 2 false (five0 w a1 a2 b1 b2) (Nat.le_refl _) (five_row w a1 a2 b1 b2) (five_start w a1 a2 b1 b2).k (by omega) hL (five_start w a1 a2 b1 b2).low (by omega))
  have Hβ := Lib.hid hβ
  clear hL M1 M2 RD hβ
  go_enter Tryz.func107, Tryz.ntmps107
  go_wp2_with (first
    | (go_at_call 174; refine CK.out.mono ?_; rintro e w1 ⟨rfl, ht, hw⟩; have F := (five_start w a1 a2 b1 b2).turn ht (Hβ.out ▸ hw); have xa0 := F.a.c0; have xa1 := F.a.c1; have xb0 := F.b'.c0; have xb1 := F.b'.c1)
    | (go_at_call 176; (with_reducible refine (H1.out _ _ F.k (HL.out.below F.low)).mono ?_); rintro e w2 ⟨rfl, ht, hw⟩; replace F := F.turn ht hw; have xa0 := F.a.c0; have xa1 := F.a.c1; have xb0 := F.b'.c0; have xb1 := F.b'.c1)
    | (go_at_call 176; (with_reducible refine (H2.out _ _ F.k (HL.out.below F.low)).mono ?_); rintro e w3 ⟨rfl, ht, hw⟩; replace F := F.turn ht hw)
    | (go_at_call 152; (with_reducible refine (HR.out _ _ F.k F.low (by omega)).mono ?_); rintro e w4 ⟨rfl, ht⟩; have rb := F.r.turn ht (by rw [List.mem_singleton]; omega); have hB := below_turn F.low ht (by omega); have r0 := rb.c0; have r1 := rb.c1; have f0 := rb.f0; have f1 := rb.f1))
  have RBF := rb.set (numT o) (denT o)
  have e0 := RBF.c0
  have e1 := RBF.c1
  refine bodyPost_ret (v := .tuple #[.agg #[.string (numT o), .string (denT o)], .int .i64 (errT o)]) (by simp [results, Tryz.results107, go_sem, e0, e1]) rfl ⟨rfl, below_new2 hB (by omega)⟩

set_option maxHeartbeats 4000000 in
set_option maxRecDepth 100000 in
theorem qdiv_walk (a1 a2 b1 b2 s1 s2 : ByteArray) (β0 β1 β2 : Bool) (o : Option Rat) (w : World) (hL : Laid w) (hβ : stB false [(a1, a2), (b1, b2)] 2 = β0)
    (M1 : ∀ p W, WB W p β0 → Laid W → Calls Tryz.prog 176 #[.pointer (some ⟨p, 0, none⟩), .string a1, .string b2] W (RetWk W p s1 β1))
    (M2 : ∀ p W, WB W p β1 → Laid W → Calls Tryz.prog 176 #[.pointer (some ⟨p, 0, none⟩), .string a2, .string b1] W (RetWk W p s2 β2))
    (RD : ∀ p W, WB W p β2 → Below w.heap.size w W → w.heap.size ≤ p → Calls Tryz.prog 152 #[.pointer (some ⟨p, 0, none⟩), .string s1, .string s2] W (RetQW W p o)) :
    Calls Tryz.prog 108 #[.agg #[.string a1, .string a2], .agg #[.string b1, .string b2]] w (RetQ w o) := by
  have HL := Lib.hid hL
  have H1 := Lib.hid M1
  have H2 := Lib.hid M2
  have HR := Lib.hid RD
  have CK := Lib.hid (check_any w [(a1, a2), (b1, b2)] (by simp) (w.heap.size + 1 + 1 + 1 + 1) (w.heap.size + 1 + 1 + 1) 2 false (five0 w a1 a2 b1 b2) (Nat.le_refl _) (five_row w a1 a2 b1 b2) (five_start w a1 a2 b1 b2).k (by omega) hL (five_start w a1 a2 b1 b2).low (by omega))
  have Hβ := Lib.hid hβ
  clear hL M1 M2 RD hβ
  go_enter Tryz.func108, Tryz.ntmps108
  go_wp2_with (first
    | (go_at_call 174; refine CK.out.mono ?_; rintro e w1 ⟨rfl, ht, hw⟩; have F := (five_start w a1 a2 b1 b2).turn ht (Hβ.out ▸ hw); have xa0 := F.a.c0; have xa1 := F.a.c1; have xb0 := F.b'.c0; have xb1 := F.b'.c1)
    | (go_at_call 176; (with_reducible refine (H1.out _ _ F.k (HL.out.below F.low)).mono ?_); rintro e w2 ⟨rfl, ht, hw⟩; replace F := F.turn ht hw; have xa0 := F.a.c0; have xa1 := F.a.c1; have xb0 := F.b'.c0; have xb1 := F.b'.c1)
    | (go_at_call 176; (with_reducible refine (H2.out _ _ F.k (HL.out.below F.low)).mono ?_); rintro e w3 ⟨rfl, ht, hw⟩; replace F := F.turn ht hw)
    | (go_at_call 152; (with_reducible refine (HR.out _ _ F.k F.low (by omega)).mono ?_); rintro e w4 ⟨rfl, ht⟩; have rb := F.r.turn ht (by rw [List.mem_singleton]; omega); have hB := below_turn F.low ht (by omega); have r0 := rb.c0; have r1 := rb.c1; have f0 := rb.f0; have f1 := rb.f1))
  have RBF := rb.set (numT o) (denT o)
  have e0 := RBF.c0
  have e1 := RBF.c1
  refine bodyPost_ret (v := .tuple #[.agg #[.string (numT o), .string (denT o)], .int .i64 (errT o)]) (by simp [results, Tryz.results108, go_sem, e0, e1]) rfl ⟨rfl, below_new2 hB (by omega)⟩

end Go.Proofs.YtffndcjmabjhiaaGreatDoor

namespace Go.Proofs.YtffndcjmabjhiaaGreatDoor
open Go.RowKit Num
open Go.Shelf

theorem st_two {a1 a2 b1 b2 : ByteArray} : stB false [(a1, a2), (b1, b2)] 2 = !((ratO a1 a2).isSome && (ratO b1 b2).isSome) := by
  unfold stB
  simp [okR_eq]
theorem mul_good {s t r : ByteArray} {a b : Int} (hs : Is s a) (ht : Is t b) (hr : Is r (a * b)) (p : Nat) (W : World) (hw : WB W p false) (hL : Laid W) :
    Calls Tryz.prog 176 #[.pointer (some ⟨p, 0, none⟩), .string s, .string t] W (RetWk W p r false) :=
  mul_of (do_ok _ enter_mul p s t r W hw (mul_is hs ht hr rfl W hL))
theorem mul_fails {s t : ByteArray} {a b : Int} (hs : Is s a) (ht : Is t b) (hr : ¬ sm (a * b)) (p : Nat) (W : World) (hw : WB W p false) (hL : Laid W) :
    Calls Tryz.prog 176 #[.pointer (some ⟨p, 0, none⟩), .string s, .string t] W (RetWk W p ⟨#[]⟩ true) :=
  mul_of (do_fail _ enter_mul p s t W hw (mul_over hs ht hr W hL))
theorem mul_stands (s t : ByteArray) (p : Nat) (W : World) (hw : WB W p true) :
    Calls Tryz.prog 176 #[.pointer (some ⟨p, 0, none⟩), .string s, .string t] W (RetWk W p ⟨#[]⟩ true) := mul_of (do_bad _ p s t W hw)

theorem qmul_any (a1 a2 b1 b2 : ByteArray) (w : World) (hL : Laid w) :
    Calls Tryz.prog 107 #[.agg #[.string a1, .string a2], .agg #[.string b1, .string b2]] w (RetQ w (op2Q mulQ (ratO a1 a2) (ratO b1 b2))) := by
  have none_case : op2Q mulQ (ratO a1 a2) (ratO b1 b2) = none → stB false [(a1, a2), (b1, b2)] 2 = true →
      Calls Tryz.prog 107 #[.agg #[.string a1, .string a2], .agg #[.string b1, .string b2]] w (RetQ w (op2Q mulQ (ratO a1 a2) (ratO b1 b2))) := fun h k => by
    rw [h]
    exact qmul_walk a1 a2 b1 b2 ⟨#[]⟩ ⟨#[]⟩ true true true none w hL k (fun p W hw _ => mul_stands _ _ p W hw) (fun p W hw _ => mul_stands _ _ p W hw) (fun p W hw _ _ => reduced_bad p _ _ W hw)
  cases ha : ratO a1 a2 with
  | none => rw [ha] at none_case; exact none_case rfl (by rw [st_two, ha]; rfl)
  | some p =>
    cases hb : ratO b1 b2 with
    | none => rw [ha, hb] at none_case; exact none_case rfl (by rw [st_two, ha, hb]; rfl)
    | some q =>
      have fa := ratO_some.1 ha
      have fb := ratO_some.1 hb
      have hst : stB false [(a1, a2), (b1, b2)] 2 = false := by rw [st_two, ha, hb]; rfl
      have he : op2Q mulQ (some p) (some q) = mulQ p q := rfl
      rw [he]
      by_cases h1 : sm (p.num * q.num)
      · obtain ⟨s1, hs1⟩ := Is.ex h1
        by_cases h2 : sm ((p.den : Int) * q.den)
        · obtain ⟨s2, hs2⟩ := Is.ex h2
          have hres : makeQ (p.num * q.num) ((p.den : Int) * q.den) = mulQ p q := by
            unfold makeQ mulQ
            have hd : (p.den : Int) * q.den ≠ 0 := by
              have h3 : (0 : Int) < (p.den : Int) * q.den := Int.mul_pos (by have := p.den_pos; omega) (by have := q.den_pos; omega)
              omega
            rw [if_neg hd, if_pos ⟨h1, h2⟩, mul_divInt]
          rw [← hres]
          exact qmul_walk a1 a2 b1 b2 s1 s2 false false false _ w hL hst (fun k W hw hl => mul_good fa.1 fb.1 hs1 k W hw hl) (fun k W hw hl => mul_good fa.2 fb.2 hs2 k W hw hl) (fun k W hw hb hk => reduced_ok w k s1 s2 _ _ hs1 hs2 W hw hL hb hk)
        · have hres : mulQ p q = none := by unfold mulQ; rw [if_neg (fun h => h2 h.2)]
          rw [hres]
          exact qmul_walk a1 a2 b1 b2 s1 ⟨#[]⟩ false false true _ w hL hst (fun k W hw hl => mul_good fa.1 fb.1 hs1 k W hw hl) (fun k W hw hl => mul_fails fa.2 fb.2 h2 k W hw hl) (fun k W hw _ _ => reduced_bad k _ _ W hw)
      · have hres : mulQ p q = none := by unfold mulQ; rw [if_neg (fun h => h1 h.1)]
        rw [hres]
        exact qmul_walk a1 a2 b1 b2 ⟨#[]⟩ ⟨#[]⟩ false true true _ w hL hst (fun k W hw hl => mul_fails fa.1 fb.1 h1 k W hw hl) (fun k W hw _ => mul_stands _ _ k W hw) (fun k W hw _ _ => reduced_bad k _ _ W hw)

theorem qdiv_any (a1 a2 b1 b2 : ByteArray) (w : World) (hL : Laid w) :
    Calls Tryz.prog 108 #[.agg #[.string a1, .string a2], .agg #[.string b1, .string b2]] w (RetQ w (op2Q divQ (ratO a1 a2) (ratO b1 b2))) := by
  have none_case : op2Q divQ (ratO a1 a2) (ratO b1 b2) = none → stB false [(a1, a2), (b1, b2)] 2 = true →
      Calls Tryz.prog 108 #[.agg #[.string a1, .string a2], .agg #[.string b1, .string b2]] w (RetQ w (op2Q divQ (ratO a1 a2) (ratO b1 b2))) := fun h k => by
    rw [h]
    exact qdiv_walk a1 a2 b1 b2 ⟨#[]⟩ ⟨#[]⟩ true true true none w hL k (fun p W hw _ => mul_stands _ _ p W hw) (fun p W hw _ => mul_stands _ _ p W hw) (fun p W hw _ _ => reduced_bad p _ _ W hw)
  cases ha : ratO a1 a2 with
  | none => rw [ha] at none_case; exact none_case rfl (by rw [st_two, ha]; rfl)
  | some p =>
    cases hb : ratO b1 b2 with
    | none => rw [ha, hb] at none_case; exact none_case rfl (by rw [st_two, ha, hb]; rfl)
    | some q =>
      have fa := ratO_some.1 ha
      have fb := ratO_some.1 hb
      have hst : stB false [(a1, a2), (b1, b2)] 2 = false := by rw [st_two, ha, hb]; rfl
      have he : op2Q divQ (some p) (some q) = divQ p q := rfl
      rw [he]
      by_cases h1 : sm (p.num * q.den)
      · obtain ⟨s1, hs1⟩ := Is.ex h1
        by_cases h2 : sm ((p.den : Int) * q.num)
        · obtain ⟨s2, hs2⟩ := Is.ex h2
          have hres : makeQ (p.num * q.den) ((p.den : Int) * q.num) = divQ p q := by
            unfold makeQ divQ
            by_cases hz : q = 0
            · subst hz
              rw [if_pos (by show (p.den : Int) * 0 = 0; simp), if_neg (fun h => h.2.2 rfl)]
            · have hn : q.num ≠ 0 := fun h => hz (Rat.num_eq_zero.1 h)
              rw [if_neg (Int.mul_ne_zero (by have := p.den_pos; omega) hn), if_pos ⟨h1, h2, hz⟩, quo_divInt]
          rw [← hres]
          exact qdiv_walk a1 a2 b1 b2 s1 s2 false false false _ w hL hst (fun k W hw hl => mul_good fa.1 fb.2 hs1 k W hw hl) (fun k W hw hl => mul_good fa.2 fb.1 hs2 k W hw hl) (fun k W hw hb hk => reduced_ok w k s1 s2 _ _ hs1 hs2 W hw hL hb hk)
        · have hres : divQ p q = none := by unfold divQ; rw [if_neg (fun h => h2 h.2.1)]
          rw [hres]
          exact qdiv_walk a1 a2 b1 b2 s1 ⟨#[]⟩ false false true _ w hL hst (fun k W hw hl => mul_good fa.1 fb.2 hs1 k W hw hl) (fun k W hw hl => mul_fails fa.2 fb.1 h2 k W hw hl) (fun k W hw _ _ => reduced_bad k _ _ W hw)
      · have hres : divQ p q = none := by unfold divQ; rw [if_neg (fun h => h1 h.1)]
        rw [hres]
        exact qdiv_walk a1 a2 b1 b2 ⟨#[]⟩ ⟨#[]⟩ false true true _ w hL hst (fun k W hw hl => mul_fails fa.1 fb.2 h1 k W hw hl) (fun k W hw _ => mul_stands _ _ k W hw) (fun k W hw _ _ => reduced_bad k _ _ W hw)

end Go.Proofs.YtffndcjmabjhiaaGreatDoor

namespace Go.Proofs.YtffndcjmabjhiaaGreatDoor
open Go.RowKit Num
open Go.Shelf

theorem Five.below {w W W' : World} {a1 a2 b1 b2 : ByteArray} {b : Bool} (h : Five w W a1 a2 b1 b2 b) (hb : Below W.heap.size W W') : Five w W' a1 a2 b1 b2 b :=
  ⟨h.a.below hb, h.b'.below hb, h.r.below hb, h.k.below hb, below_up h.low hb⟩

set_option maxHeartbeats 8000000 in
set_option maxRecDepth 100000 in
theorem sum_walk (op : Nat) (a1 a2 b1 b2 s1 s2 s3 s4 : ByteArray) (β0 β1 β2 β3 β4 : Bool) (o : Option Rat) (w : World) (hL : Laid w) (hβ : stB false [(a1, a2), (b1, b2)] 2 = β0)
    (M1 : ∀ p W, WB W p β0 → Laid W → Calls Tryz.prog 176 #[.pointer (some ⟨p, 0, none⟩), .string a1, .string b2] W (RetWk W p s1 β1))
    (M2 : ∀ p W, WB W p β1 → Laid W → Calls Tryz.prog 176 #[.pointer (some ⟨p, 0, none⟩), .string b1, .string a2] W (RetWk W p s2 β2))
    (M3 : ∀ p W, WB W p β2 → Laid W → Calls Tryz.prog 175 #[.pointer (some ⟨p, 0, none⟩), .func (.func op) #[] #[], .string s1, .string s2] W (RetWk W p s3 β3))
    (M4 : ∀ p W, WB W p β3 → Laid W → Calls Tryz.prog 176 #[.pointer (some ⟨p, 0, none⟩), .string a2, .string b2] W (RetWk W p s4 β4))
    (RD : ∀ p W, WB W p β4 → Below w.heap.size w W → w.heap.size ≤ p → Calls Tryz.prog 152 #[.pointer (some ⟨p, 0, none⟩), .string s3, .string s4] W (RetQW W p o)) :
    Calls Tryz.prog 80 #[.func (.func op) #[] #[], .agg #[.string a1, .string a2], .agg #[.string b1, .string b2]] w (RetQ w o) := by
  have HL := Lib.hid hL
  have H1 := Lib.hid M1
  have H2 := Lib.hid M2
  have H3 := Lib.hid M3
  have H4 := Lib.hid M4
  have HR := Lib.hid RD
  have CK := Lib.hid (check_any w [(a1, a2), (b1, b2)] (by simp) (w.heap.size + 1 + 1 + 1 + 1) (w.heap.size + 1 + 1 + 1) 2 false (five0 w a1 a2 b1 b2) (Nat.le_refl _) (five_row w a1 a2 b1 b2) (five_start w a1 a2 b1 b2).k (by omega) hL (five_start w a1 a2 b1 b2).low (by omega))
  have Hβ := Lib.hid hβ
  clear hL M1 M2 M3 M4 RD hβ
  go_enter Tryz.func80, Tryz.ntmps80
  go_wp2_with (go_at_call 174; refine CK.out.mono ?_; rintro e w1 ⟨rfl, ht, hw⟩; have F := (five_start w a1 a2 b1 b2).turn ht (Hβ.out ▸ hw))
  have hmixed : Tryz.prog.follows .mixedOrders = true := by kernel_rfl
  have F := F.below (Below.refl w1.heap.size w1).drew
  have xa0 := F.a.c0
  have xa1 := F.a.c1
  have xb0 := F.b'.c0
  have xb1 := F.b'.c1
  clear ht hw
  go_region_held3 (fun w' => w'.cell? ⟨w.heap.size, 0, none⟩ = some (.string a1) ∧ w'.cell? ⟨w.heap.size, 1, none⟩ = some (.string a2) ∧ w'.cell? ⟨w.heap.size + 1, 0, none⟩ = some (.string b1) ∧ w'.cell? ⟨w.heap.size + 1, 1, none⟩ = some (.string b2)) (go_keep) (first
    | (go_at_call 176; (with_reducible refine (H1.out _ _ F.k (HL.out.below F.low)).mono ?_); rintro e wN ⟨rfl, ht, hw⟩; have F := F.turn ht hw; have xa0 := F.a.c0; have xa1 := F.a.c1; have xb0 := F.b'.c0; have xb1 := F.b'.c1; clear ht hw)
    | (go_at_call 176; (with_reducible refine (H2.out _ _ F.k (HL.out.below F.low)).mono ?_); rintro e wN ⟨rfl, ht, hw⟩; have F := F.turn ht hw; have xa0 := F.a.c0; have xa1 := F.a.c1; have xb0 := F.b'.c0; have xb1 := F.b'.c1; clear ht hw)
    | (go_at_call 175; (with_reducible refine (H3.out _ _ F.k (HL.out.below F.low)).mono ?_); rintro e wN ⟨rfl, ht, hw⟩; have F := F.turn ht hw; have xa0 := F.a.c0; have xa1 := F.a.c1; have xb0 := F.b'.c0; have xb1 := F.b'.c1; clear ht hw))
  all_goals go_wp2_with (first
    | (go_at_call 176; (with_reducible refine (H4.out _ _ F.k (HL.out.below F.low)).mono ?_); rintro e w3 ⟨rfl, ht, hw⟩; replace F := F.turn ht hw)
    | (go_at_call 152; (with_reducible refine (HR.out _ _ F.k F.low (by omega)).mono ?_); rintro e w4 ⟨rfl, ht⟩; have rb := F.r.turn ht (by rw [List.mem_singleton]; omega); have hB := below_turn F.low ht (by omega); have r0 := rb.c0; have r1 := rb.c1; have f0 := rb.f0; have f1 := rb.f1))
  all_goals
    have RBF := rb.set (numT o) (denT o)
    have e0 := RBF.c0
    have e1 := RBF.c1
    refine bodyPost_ret (v := .tuple #[.agg #[.string (numT o), .string (denT o)], .int .i64 (errT o)]) (by simp [results, Tryz.results80, go_sem, e0, e1]) rfl ⟨rfl, below_new2 hB (by omega)⟩

end Go.Proofs.YtffndcjmabjhiaaGreatDoor

namespace Go.Proofs.YtffndcjmabjhiaaGreatDoor
open Go.RowKit Num
open Go.Shelf

def three0 (w : World) (a1 a2 b1 b2 : ByteArray) : World :=
  ((w.alloc (.cells #[.string a1, .string a2] 29)).alloc (.cells #[.string b1, .string b2] 29)).alloc (.cells #[.string ⟨#[]⟩, .string ⟨#[]⟩] 29)
theorem three_low (w : World) (a1 a2 b1 b2 : ByteArray) : Below w.heap.size w (three0 w a1 a2 b1 b2) := below_up (below1 _ _) (below_up (below1 _ _) (below1 _ _))
theorem three_r (w : World) (a1 a2 b1 b2 : ByteArray) : RB (three0 w a1 a2 b1 b2) (w.heap.size + 1 + 1) ⟨#[]⟩ ⟨#[]⟩ := by
  have h := RB.new ((w.alloc (.cells #[.string a1, .string a2] 29)).alloc (.cells #[.string b1, .string b2] 29)) ⟨#[]⟩ ⟨#[]⟩
  rw [World.size_alloc, World.size_alloc] at h
  exact h

theorem sum_add (a1 a2 b1 b2 : ByteArray) (w : World) (hL : Laid w) :
    Calls Tryz.prog 80 #[.func (.func 196) #[] #[], .agg #[.string a1, .string a2], .agg #[.string b1, .string b2]] w (RetQ w (op2Q addQ (ratO a1 a2) (ratO b1 b2))) := by
  have none_case : op2Q addQ (ratO a1 a2) (ratO b1 b2) = none → stB false [(a1, a2), (b1, b2)] 2 = true →
      Calls Tryz.prog 80 #[.func (.func 196) #[] #[], .agg #[.string a1, .string a2], .agg #[.string b1, .string b2]] w (RetQ w (op2Q addQ (ratO a1 a2) (ratO b1 b2))) := fun h k => by
    rw [h]
    exact sum_walk _ a1 a2 b1 b2 ⟨#[]⟩ ⟨#[]⟩ ⟨#[]⟩ ⟨#[]⟩ true true true true true none w hL k (fun p W hw _ => mul_stands _ _ p W hw) (fun p W hw _ => mul_stands _ _ p W hw) (fun p W hw _ => do_bad _ p _ _ W hw) (fun p W hw _ => mul_stands _ _ p W hw) (fun p W hw _ _ => reduced_bad p _ _ W hw)
  cases ha : ratO a1 a2 with
  | none => rw [ha] at none_case; exact none_case rfl (by rw [st_two, ha]; rfl)
  | some p =>
    cases hb : ratO b1 b2 with
    | none => rw [ha, hb] at none_case; exact none_case rfl (by rw [st_two, ha, hb]; rfl)
    | some q =>
      have fa := ratO_some.1 ha
      have fb := ratO_some.1 hb
      have hst : stB false [(a1, a2), (b1, b2)] 2 = false := by rw [st_two, ha, hb]; rfl
      have he : op2Q addQ (some p) (some q) = addQ p q := rfl
      rw [he]
      by_cases h1 : sm (p.num * q.den)
      · obtain ⟨s1, hs1⟩ := Is.ex h1
        by_cases h2 : sm (q.num * p.den)
        · obtain ⟨s2, hs2⟩ := Is.ex h2
          by_cases h3 : sm (p.num * q.den + q.num * p.den)
          · obtain ⟨s3, hs3⟩ := Is.ex h3
            by_cases h4 : sm ((p.den : Int) * q.den)
            · obtain ⟨s4, hs4⟩ := Is.ex h4
              have hres : makeQ (p.num * q.den + q.num * p.den) ((p.den : Int) * q.den) = addQ p q := by
                unfold makeQ addQ
                have hd : (0 : Int) < (p.den : Int) * q.den := Int.mul_pos (by have := p.den_pos; omega) (by have := q.den_pos; omega)
                rw [if_neg (by omega), if_pos ⟨h1, h2, h3, h4⟩, add_divInt]
              rw [← hres]
              exact sum_walk _ a1 a2 b1 b2 s1 s2 s3 s4 false false false false false _ w hL hst (fun k W hw hl => mul_good fa.1 fb.2 hs1 k W hw hl) (fun k W hw hl => mul_good fb.1 fa.2 hs2 k W hw hl) (fun k W hw hl => do_ok _ enter_add k _ _ _ W hw (add_is hs1 hs2 hs3 rfl W hl)) (fun k W hw hl => mul_good fa.2 fb.2 hs4 k W hw hl) (fun k W hw hb hk => reduced_ok w k s3 s4 _ _ hs3 hs4 W hw hL hb hk)
            · have hres : addQ p q = none := by unfold addQ; rw [if_neg (fun h => h4 h.2.2.2)]
              rw [hres]
              exact sum_walk _ a1 a2 b1 b2 s1 s2 s3 ⟨#[]⟩ false false false false true _ w hL hst (fun k W hw hl => mul_good fa.1 fb.2 hs1 k W hw hl) (fun k W hw hl => mul_good fb.1 fa.2 hs2 k W hw hl) (fun k W hw hl => do_ok _ enter_add k _ _ _ W hw (add_is hs1 hs2 hs3 rfl W hl)) (fun k W hw hl => mul_fails fa.2 fb.2 h4 k W hw hl) (fun k W hw _ _ => reduced_bad k _ _ W hw)
          · have hres : addQ p q = none := by unfold addQ; rw [if_neg (fun h => h3 h.2.2.1)]
            rw [hres]
            exact sum_walk _ a1 a2 b1 b2 s1 s2 ⟨#[]⟩ ⟨#[]⟩ false false false true true _ w hL hst (fun k W hw hl => mul_good fa.1 fb.2 hs1 k W hw hl) (fun k W hw hl => mul_good fb.1 fa.2 hs2 k W hw hl) (fun k W hw hl => do_fail _ enter_add k _ _ W hw (add_over hs1 hs2 h3 W hl)) (fun k W hw _ => mul_stands _ _ k W hw) (fun k W hw _ _ => reduced_bad k _ _ W hw)
        · have hres : addQ p q = none := by unfold addQ; rw [if_neg (fun h => h2 h.2.1)]
          rw [hres]
          exact sum_walk _ a1 a2 b1 b2 s1 ⟨#[]⟩ ⟨#[]⟩ ⟨#[]⟩ false false true true true _ w hL hst (fun k W hw hl => mul_good fa.1 fb.2 hs1 k W hw hl) (fun k W hw hl => mul_fails fb.1 fa.2 h2 k W hw hl) (fun k W hw _ => do_bad _ k _ _ W hw) (fun k W hw _ => mul_stands _ _ k W hw) (fun k W hw _ _ => reduced_bad k _ _ W hw)
      · have hres : addQ p q = none := by unfold addQ; rw [if_neg (fun h => h1 h.1)]
        rw [hres]
        exact sum_walk _ a1 a2 b1 b2 ⟨#[]⟩ ⟨#[]⟩ ⟨#[]⟩ ⟨#[]⟩ false true true true true _ w hL hst (fun k W hw hl => mul_fails fa.1 fb.2 h1 k W hw hl) (fun k W hw _ => mul_stands _ _ k W hw) (fun k W hw _ => do_bad _ k _ _ W hw) (fun k W hw _ => mul_stands _ _ k W hw) (fun k W hw _ _ => reduced_bad k _ _ W hw)

set_option maxHeartbeats 2000000 in
set_option maxRecDepth 100000 in
theorem qadd_any (a1 a2 b1 b2 : ByteArray) (w : World) (hL : Laid w) :
    Calls Tryz.prog 106 #[.agg #[.string a1, .string a2], .agg #[.string b1, .string b2]] w (RetQ w (op2Q addQ (ratO a1 a2) (ratO b1 b2))) := by
  have HS := Lib.hid (fun w hL => sum_add a1 a2 b1 b2 w hL)
  have HL := Lib.hid hL
  generalize op2Q addQ (ratO a1 a2) (ratO b1 b2) = o at *
  clear hL
  go_enter Tryz.func106, Tryz.ntmps106
  go_wp2_with (go_at_call 80; refine (HS.out (three0 w a1 a2 b1 b2) (HL.out.below (three_low w a1 a2 b1 b2))).mono ?_; rintro e w1 ⟨rfl, hb⟩; have rb := (three_r w a1 a2 b1 b2).below hb; have hB := below_up (three_low w a1 a2 b1 b2) hb; have r0 := rb.c0; have r1 := rb.c1; have f0 := rb.f0; have f1 := rb.f1)
  have RBF := rb.set (numT o) (denT o)
  have e0 := RBF.c0
  have e1 := RBF.c1
  refine bodyPost_ret (v := .tuple #[.agg #[.string (numT o), .string (denT o)], .int .i64 (errT o)]) (by simp [results, Tryz.results106, go_sem, e0, e1]) rfl ⟨rfl, below_new2 hB (by omega)⟩

theorem sum_sub (a1 a2 b1 b2 : ByteArray) (w : World) (hL : Laid w) :
    Calls Tryz.prog 80 #[.func (.func 81) #[] #[], .agg #[.string a1, .string a2], .agg #[.string b1, .string b2]] w (RetQ w (op2Q subQ (ratO a1 a2) (ratO b1 b2))) := by
  have none_case : op2Q subQ (ratO a1 a2) (ratO b1 b2) = none → stB false [(a1, a2), (b1, b2)] 2 = true →
      Calls Tryz.prog 80 #[.func (.func 81) #[] #[], .agg #[.string a1, .string a2], .agg #[.string b1, .string b2]] w (RetQ w (op2Q subQ (ratO a1 a2) (ratO b1 b2))) := fun h k => by
    rw [h]
    exact sum_walk _ a1 a2 b1 b2 ⟨#[]⟩ ⟨#[]⟩ ⟨#[]⟩ ⟨#[]⟩ true true true true true none w hL k (fun p W hw _ => mul_stands _ _ p W hw) (fun p W hw _ => mul_stands _ _ p W hw) (fun p W hw _ => do_bad _ p _ _ W hw) (fun p W hw _ => mul_stands _ _ p W hw) (fun p W hw _ _ => reduced_bad p _ _ W hw)
  cases ha : ratO a1 a2 with
  | none => rw [ha] at none_case; exact none_case rfl (by rw [st_two, ha]; rfl)
  | some p =>
    cases hb : ratO b1 b2 with
    | none => rw [ha, hb] at none_case; exact none_case rfl (by rw [st_two, ha, hb]; rfl)
    | some q =>
      have fa := ratO_some.1 ha
      have fb := ratO_some.1 hb
      have hst : stB false [(a1, a2), (b1, b2)] 2 = false := by rw [st_two, ha, hb]; rfl
      have he : op2Q subQ (some p) (some q) = subQ p q := rfl
      rw [he]
      by_cases h1 : sm (p.num * q.den)
      · obtain ⟨s1, hs1⟩ := Is.ex h1
        by_cases h2 : sm (q.num * p.den)
        · obtain ⟨s2, hs2⟩ := Is.ex h2
          by_cases h3 : sm (p.num * q.den - q.num * p.den)
          · obtain ⟨s3, hs3⟩ := Is.ex h3
            by_cases h4 : sm ((p.den : Int) * q.den)
            · obtain ⟨s4, hs4⟩ := Is.ex h4
              have hres : makeQ (p.num * q.den - q.num * p.den) ((p.den : Int) * q.den) = subQ p q := by
                unfold makeQ subQ
                have hd : (0 : Int) < (p.den : Int) * q.den := Int.mul_pos (by have := p.den_pos; omega) (by have := q.den_pos; omega)
                rw [if_neg (by omega), if_pos ⟨h1, h2, h3, h4⟩, sub_divInt]
              rw [← hres]
              exact sum_walk _ a1 a2 b1 b2 s1 s2 s3 s4 false false false false false _ w hL hst (fun k W hw hl => mul_good fa.1 fb.2 hs1 k W hw hl) (fun k W hw hl => mul_good fb.1 fa.2 hs2 k W hw hl) (fun k W hw hl => do_ok _ enter_sub k _ _ _ W hw (sub_is hs1 hs2 hs3 rfl W hl)) (fun k W hw hl => mul_good fa.2 fb.2 hs4 k W hw hl) (fun k W hw hb hk => reduced_ok w k s3 s4 _ _ hs3 hs4 W hw hL hb hk)
            · have hres : subQ p q = none := by unfold subQ; rw [if_neg (fun h => h4 h.2.2.2)]
              rw [hres]
              exact sum_walk _ a1 a2 b1 b2 s1 s2 s3 ⟨#[]⟩ false false false false true _ w hL hst (fun k W hw hl => mul_good fa.1 fb.2 hs1 k W hw hl) (fun k W hw hl => mul_good fb.1 fa.2 hs2 k W hw hl) (fun k W hw hl => do_ok _ enter_sub k _ _ _ W hw (sub_is hs1 hs2 hs3 rfl W hl)) (fun k W hw hl => mul_fails fa.2 fb.2 h4 k W hw hl) (fun k W hw _ _ => reduced_bad k _ _ W hw)
          · have hres : subQ p q = none := by unfold subQ; rw [if_neg (fun h => h3 h.2.2.1)]
            rw [hres]
            exact sum_walk _ a1 a2 b1 b2 s1 s2 ⟨#[]⟩ ⟨#[]⟩ false false false true true _ w hL hst (fun k W hw hl => mul_good fa.1 fb.2 hs1 k W hw hl) (fun k W hw hl => mul_good fb.1 fa.2 hs2 k W hw hl) (fun k W hw hl => do_fail _ enter_sub k _ _ W hw (sub_over hs1 hs2 h3 W hl)) (fun k W hw _ => mul_stands _ _ k W hw) (fun k W hw _ _ => reduced_bad k _ _ W hw)
        · have hres : subQ p q = none := by unfold subQ; rw [if_neg (fun h => h2 h.2.1)]
          rw [hres]
          exact sum_walk _ a1 a2 b1 b2 s1 ⟨#[]⟩ ⟨#[]⟩ ⟨#[]⟩ false false true true true _ w hL hst (fun k W hw hl => mul_good fa.1 fb.2 hs1 k W hw hl) (fun k W hw hl => mul_fails fb.1 fa.2 h2 k W hw hl) (fun k W hw _ => do_bad _ k _ _ W hw) (fun k W hw _ => mul_stands _ _ k W hw) (fun k W hw _ _ => reduced_bad k _ _ W hw)
      · have hres : subQ p q = none := by unfold subQ; rw [if_neg (fun h => h1 h.1)]
        rw [hres]
        exact sum_walk _ a1 a2 b1 b2 ⟨#[]⟩ ⟨#[]⟩ ⟨#[]⟩ ⟨#[]⟩ false true true true true _ w hL hst (fun k W hw hl => mul_fails fa.1 fb.2 h1 k W hw hl) (fun k W hw _ => mul_stands _ _ k W hw) (fun k W hw _ => do_bad _ k _ _ W hw) (fun k W hw _ => mul_stands _ _ k W hw) (fun k W hw _ _ => reduced_bad k _ _ W hw)

set_option maxHeartbeats 2000000 in
set_option maxRecDepth 100000 in
theorem qsub_any (a1 a2 b1 b2 : ByteArray) (w : World) (hL : Laid w) :
    Calls Tryz.prog 23 #[.agg #[.string a1, .string a2], .agg #[.string b1, .string b2]] w (RetQ w (op2Q subQ (ratO a1 a2) (ratO b1 b2))) := by
  have HS := Lib.hid (fun w hL => sum_sub a1 a2 b1 b2 w hL)
  have HL := Lib.hid hL
  generalize op2Q subQ (ratO a1 a2) (ratO b1 b2) = o at *
  clear hL
  go_enter Tryz.func23, Tryz.ntmps23
  go_wp2_with (go_at_call 80; refine (HS.out (three0 w a1 a2 b1 b2) (HL.out.below (three_low w a1 a2 b1 b2))).mono ?_; rintro e w1 ⟨rfl, hb⟩; have rb := (three_r w a1 a2 b1 b2).below hb; have hB := below_up (three_low w a1 a2 b1 b2) hb; have r0 := rb.c0; have r1 := rb.c1; have f0 := rb.f0; have f1 := rb.f1)
  have RBF := rb.set (numT o) (denT o)
  have e0 := RBF.c0
  have e1 := RBF.c1
  refine bodyPost_ret (v := .tuple #[.agg #[.string (numT o), .string (denT o)], .int .i64 (errT o)]) (by simp [results, Tryz.results23, go_sem, e0, e1]) rfl ⟨rfl, below_new2 hB (by omega)⟩

/-- 'Of', at two ints. -/
theorem makeT_is {s t : ByteArray} {n d : Int} (hs : Is s n) (ht : Is t d) : makeT s t = makeQ n d := by
  unfold makeT
  rw [show rdI s = some n from hs, show rdI t = some d from ht]
set_option maxHeartbeats 2000000 in
set_option maxRecDepth 100000 in
theorem qof_any (n d : Int) (hn0 : -9223372036854775808 ≤ n) (hn1 : n ≤ 9223372036854775807) (hd0 : -9223372036854775808 ≤ d) (hd1 : d ≤ 9223372036854775807) (w : World) (hL : Laid w) :
    Calls Tryz.prog 129 #[.int .i64 n, .int .i64 d] w (RetQ w (makeQ n d)) := by
  obtain ⟨s, hs⟩ := Is.ex (z := n) (sm_of (m := 9223372036854775809) (by omega) (by decide))
  obtain ⟨t, ht⟩ := Is.ex (z := d) (sm_of (m := 9223372036854775809) (by omega) (by decide))
  have F1 := Lib.hid (fun w hL => from_is hs hn0 hn1 w hL)
  have F2 := Lib.hid (fun w hL => from_is ht hd0 hd1 w hL)
  have MK := Lib.hid (fun w hL => qmake_any s t w hL)
  rw [makeT_is hs ht] at MK
  have HL := Lib.hid hL
  generalize makeQ n d = o at *
  clear hL hs ht hn0 hn1 hd0 hd1
  go_enter Tryz.func129, Tryz.ntmps129
  have hB := below1 w (.cells #[.string ⟨#[]⟩, .string ⟨#[]⟩] 29)
  have rb := RB.new w ⟨#[]⟩ ⟨#[]⟩
  go_wp2_with (first
    | (go_at_call 216; (with_reducible refine (F1.out _ (HL.out.below hB)).mono ?_); rintro e w1 ⟨rfl, hb⟩; replace hB := below_up hB hb; replace rb := rb.below hb; clear hb)
    | (go_at_call 216; (with_reducible refine (F2.out _ (HL.out.below hB)).mono ?_); rintro e w2 ⟨rfl, hb⟩; replace hB := below_up hB hb; replace rb := rb.below hb; clear hb)
    | (go_at_call 55; (with_reducible refine (MK.out _ (HL.out.below hB)).mono ?_); rintro e w3 ⟨rfl, hb⟩; replace hB := below_up hB hb; replace rb := rb.below hb; clear hb; have r0 := rb.c0; have r1 := rb.c1; have f0 := rb.f0; have f1 := rb.f1))
  have RBF := rb.set (numT o) (denT o)
  have e0 := RBF.c0
  have e1 := RBF.c1
  refine bodyPost_ret (v := .tuple #[.agg #[.string (numT o), .string (denT o)], .int .i64 (errT o)]) (by simp [results, Tryz.results129, go_sem, e0, e1]) rfl ⟨rfl, below_new2 hB (Nat.le_refl _)⟩

end Go.Proofs.YtffndcjmabjhiaaGreatDoor
