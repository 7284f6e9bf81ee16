/- The walk of the reference implementation's 'FromInt'. Conditions: an int. The walk of the reference implementation's 'ToInt'. Conditions: sizes. workpieceref04: Valid. Conditions: sizes. workpieceref04: Make. Conditions: sizes. -/
import Derived.Test.YtffndcjmabjhiaaGreatDoorK12
import Derived.Test.YtffndcjmabjhiaaGreatDoorK7
import Derived.Test.YtffndcjmabjhiaaGreatDoorK8
namespace Go.Proofs.YtffndcjmabjhiaaGreatDoor
open Go.RowKit Num
open Go.Shelf

/-- What is written, and what remains. -/
def FN (N : Nat) (m : Int) (ys : List Int) : Prop := ys ++ dg 10 m.natAbs = dg 10 N
theorem FN.step {N : Nat} {m m2 d : Int} {ys : List Int} (h : FN N m ys) (h0 : m ≠ 0) (hm : m2.natAbs = m.natAbs / 10) (hd : d = (m.natAbs % 10 : Nat)) : FN N m2 (ys ++ [d]) := by
  unfold FN at h ⊢
  rw [hm, List.append_assoc, ← h, dg_pos (B := 10) (n := m.natAbs) (by omega) (by omega), hd]
  rfl
theorem FN.done {N : Nat} {ys : List Int} (h : FN N 0 ys) : ys = dg 10 N := by
  unfold FN at h
  rw [show (0 : Int).natAbs = 0 from rfl, dg_zero, List.append_nil] at h
  exact h
theorem FN.len {N : Nat} {m : Int} {ys : List Int} (h : FN N m ys) : ys.length ≤ (dg 10 N).length := by
  unfold FN at h
  rw [← h, List.length_append]; omega

set_option maxHeartbeats 4000000 in
set_option maxRecDepth 100000 in
theorem rfrom_any (n : Int) (h0 : -9223372036854775808 ≤ n) (h1 : n ≤ 9223372036854775807) (w : World) : Calls Tryz.prog 147 #[.int .i64 n] w (RetZ w (tx n)) := by
  have hlN : Hid ((dg 10 n.natAbs).length ≤ 19) := Lib.hid (dg_len (by omega) 19 _ (by omega))
  have hsg := Lib.hid (sgn_self n)
  have TX := Lib.hid (fun v w hv => rtext_any (decide (n < 0)) n.natAbs v w hv)
  by_cases hn : n < 0
  · rw [decide_eq_true hn] at hsg TX
    go_enter Tryz.func147, Tryz.ntmps147
    go_wp2
    go_loopg [3, 4, 5] n.natAbs (fun kx s3 s4 s5 wr => ∃ (m : Int) (ys : List Int), s4 = .int .i64 m ∧ m ≤ 0 ∧ -9223372036854775808 ≤ m ∧ m.natAbs ≤ kx ∧ Hid (FN n.natAbs m ys) ∧ wr.ownsRow w.heap.size 3 1 s3 ys.length (ys.map (Value.int .i64)) ∧ Below w.heap.size w wr)
    case atStart => exact ⟨n, [], rfl, by omega, by omega, Nat.le_refl _, Lib.hid rfl, World.ownsRow_nil _ _ _ _, Below.refl _ _⟩
    case round =>
      obtain ⟨m, ys, rfl, hm0, hm1, hkx, hF, hown, hnx⟩ := hrel
      have hyl : ys.length ≤ 1000000 := by have := hF.out.len; have := hlN.out; omega
      by_cases hz : m = 0
      · subst hz
        have HR := Lib.hid (Rd.own hown hyl)
        have HE := Lib.hid hF.out.done
        clear hown
        go_wp2_with (go_at_call 228; (with_reducible refine (TX.out _ _ (HE.out ▸ HR.out)).mono ?_); rintro e w2 ⟨rfl, hb2⟩)
        go_ret
        exact ⟨by rw [hsg.out]; rfl, below_up hnx hb2⟩
      · have hb0 : (m == 0) = false := by rw [beq_eq_false_iff_ne]; exact hz
        have hb1 : (m != 0) = true := by rw [bne_iff_ne]; exact hz
        obtain ⟨k, rfl⟩ : ∃ k : Nat, m = -(k : Int) := ⟨m.natAbs, by omega⟩
        have et : (-(k : Int)).tmod 10 = -((k : Int) % 10) := by rw [Int.neg_tmod, Int.tmod_eq_emod_of_nonneg (by omega)]
        have ed : (-(k : Int)).tdiv 10 = -((k : Int) / 10) := by rw [Int.neg_tdiv, Int.tdiv_eq_ediv_of_nonneg (by omega)]
        have hst := Lib.hid (fun d hd => hF.out.step (m2 := -((k : Int) / 10)) (d := d) hz (by omega) hd)
        have HOWN := Lib.hid hown
        clear hown
        rcases Nat.eq_zero_or_pos (k % 10) with hd | hd
        · have hd1 : (k : Int) % 10 = 0 := by omega
          have hnew := Lib.hid (hst.out 0 (by omega))
          clear hd
          go_wp2_with (at_builtin; refine app_int rfl (.tmp 19) (.tmp 21) rfl w.heap.size _ ys 0 rfl HOWN.out rfl hyl hnx.size ?_; intro v' w3 hown3 hb3)
          go_roundg (k / 10)
          case measure => omega
          case rel => exact ⟨-((k : Int) / 10), ys ++ [0], by go_num, by omega, by omega, by omega, hnew, hown3, hb3 _ _ hnx (Nat.le_refl _)⟩
        · have hd1 : -((k : Int) % 10) < 0 := by omega
          have hnew := Lib.hid (hst.out ((k : Int) % 10) (by omega))
          have hw1 : IntKind.i64.wrap ((k : Int) % 10) = (k : Int) % 10 := IntWalk.i64_in _ (by omega)
          clear hd
          go_wp2_with (at_builtin; refine app_int rfl (.tmp 19) (.tmp 21) rfl w.heap.size _ ys ((k : Int) % 10) rfl HOWN.out rfl hyl hnx.size ?_; intro v' w3 hown3 hb3)
          go_roundg (k / 10)
          case measure => omega
          case rel => exact ⟨-((k : Int) / 10), ys ++ [(k : Int) % 10], by go_num, by omega, by omega, by omega, hnew, hown3, hb3 _ _ hnx (Nat.le_refl _)⟩
  · rw [decide_eq_false hn] at hsg TX
    have hn' : 0 ≤ n := by omega
    have hnf : ¬ n < 0 := hn
    go_enter Tryz.func147, Tryz.ntmps147
    go_wp2
    go_loopg [3, 4, 5] n.natAbs (fun kx s3 s4 s5 wr => ∃ (m : Int) (ys : List Int), s4 = .int .i64 m ∧ 0 ≤ m ∧ m ≤ 9223372036854775807 ∧ m.natAbs ≤ kx ∧ Hid (FN n.natAbs m ys) ∧ wr.ownsRow w.heap.size 3 1 s3 ys.length (ys.map (Value.int .i64)) ∧ Below w.heap.size w wr)
    case atStart => exact ⟨n, [], rfl, by omega, by omega, Nat.le_refl _, Lib.hid rfl, World.ownsRow_nil _ _ _ _, Below.refl _ _⟩
    case round =>
      obtain ⟨m, ys, rfl, hm0, hm1, hkx, hF, hown, hnx⟩ := hrel
      have hyl : ys.length ≤ 1000000 := by have := hF.out.len; have := hlN.out; omega
      by_cases hz : m = 0
      · subst hz
        have HR := Lib.hid (Rd.own hown hyl)
        have HE := Lib.hid hF.out.done
        clear hown
        have hnf2 : decide (n < 0) = false := decide_eq_false (by omega)
        go_wp2_with (go_at_call 228; (with_reducible refine (TX.out _ _ (HE.out ▸ HR.out)).mono ?_); rintro e w2 ⟨rfl, hb2⟩)
        go_ret
        exact ⟨by rw [hsg.out]; rfl, below_up hnx hb2⟩
      · have hb0 : (m == 0) = false := by rw [beq_eq_false_iff_ne]; exact hz
        have hb1 : (m != 0) = true := by rw [bne_iff_ne]; exact hz
        have hst := Lib.hid (hF.out.step (m2 := m / 10) (d := m % 10) hz (by omega) (by omega))
        have hd1 : ¬ m % 10 < 0 := by omega
        have HOWN := Lib.hid hown
        clear hown
        go_wp2_with (at_builtin; refine app_int rfl (.tmp 19) (.tmp 21) rfl w.heap.size _ ys (m % 10) rfl HOWN.out rfl hyl hnx.size ?_; intro v' w3 hown3 hb3)
        go_roundg (m / 10).natAbs
        case measure => omega
        case rel => exact ⟨m / 10, ys ++ [m % 10], by go_num, by omega, by omega, by omega, hst, hown3, hb3 _ _ hnx (Nat.le_refl _)⟩

end Go.Proofs.YtffndcjmabjhiaaGreatDoor

namespace Go.Proofs.YtffndcjmabjhiaaGreatDoor
open Go.RowKit Num
open Go.Shelf

theorem dval_take_succ {l : List UInt8} {i : Nat} (h : i < l.length) : dval (l.take (i + 1)) = 10 * dval (l.take i) + (l[i].toNat - 48) := by
  rw [List.take_succ_eq_append_getElem h, dval_snoc]
theorem dval_take_le (l : List UInt8) (i : Nat) : dval (l.take i) ≤ dval l := by
  have h := dval_append (l.take i) (l.drop i)
  rw [List.take_append_drop] at h
  rw [h]
  have : 1 ≤ 10 ^ (l.drop i).length := Nat.pow_pos (by omega)
  have := Nat.mul_le_mul_left (dval (l.take i)) this
  omega
theorem dec_get {k : Nat} {i : Nat} (h : i < (Lib.decDigits k).length) : 48 ≤ (Lib.decDigits k)[i].toNat ∧ (Lib.decDigits k)[i].toNat ≤ 57 := by
  have h1 := List.all_eq_true.1 (dec_isD k) _ (List.getElem_mem h)
  simpa [isD] using h1
theorem lit_min : Is ⟨#[45, 57, 50, 50, 51, 51, 55, 50, 48, 51, 54, 56, 53, 52, 55, 55, 53, 56, 48, 56]⟩ (-9223372036854775808) := by unfold Is; kernel_rfl
theorem lit_max : Is ⟨#[57, 50, 50, 51, 51, 55, 50, 48, 51, 54, 56, 53, 52, 55, 55, 53, 56, 48, 55]⟩ 9223372036854775807 := by unfold Is; kernel_rfl
theorem rcmp_is {s t : ByteArray} {a b c : Int} (hs : Is s a) (ht : Is t b) (h : Lib.compareInt a b = c) (w : World) :
    Calls Tryz.prog 224 #[.string s, .string t] w (RetI w c) := by
  refine (rcompare_any s t (by have := hs.size; omega) (by have := ht.size; omega) w).mono fun e w' k => ?_
  unfold cmpI at k
  rw [show rdI s = some a from hs, show rdI t = some b from ht] at k
  simp only [h] at k
  exact k

end Go.Proofs.YtffndcjmabjhiaaGreatDoor

namespace Go.Proofs.YtffndcjmabjhiaaGreatDoor
open Go.RowKit Num
open Go.Shelf

theorem tbox_x (w : World) (x y : ByteArray) : (w.alloc (.cells #[.string x, .string y] 29)).cell? ⟨w.heap.size, 0, none⟩ = some (.string x) := by simp
theorem tbox_y (w : World) (x y : ByteArray) : (w.alloc (.cells #[.string x, .string y] 29)).cell? ⟨w.heap.size, 1, none⟩ = some (.string y) := by simp
theorem rgcd_is {s t r : ByteArray} {a b c : Int} (hs : Is s a) (ht : Is t b) (hr : Is r c) (h : ((Int.gcd a b : Nat) : Int) = c) (w : World) :
    Calls Tryz.prog 226 #[.string s, .string t] w (RetSt w r) := by
  refine (rgcd_any s t (by have := hs.size; omega) (by have := ht.size; omega) w).mono fun e w' k => ?_
  rw [op2_ok hs ht] at k
  simp only [h] at k
  rw [outI_ok hr.small, ← hr.eq] at k
  exact k
theorem rdiv_is {s t q r : ByteArray} {a b c d : Int} (hs : Is s a) (ht : Is t b) (h0 : b ≠ 0) (hq : Is q c) (hr : Is r d) (h : a / b = c) (k : a % b = d) (w : World) :
    Calls Tryz.prog 227 #[.string s, .string t] w (RetD w q r) := by
  refine (rdiv_any s t (by have := hs.size; omega) (by have := ht.size; omega) w).mono fun e w' m => ?_
  have e1 : divI s t = (q, r, 0) := by
    unfold divI
    rw [show rdI s = some a from hs, show rdI t = some b from ht]
    simp only
    rw [if_neg h0, h, k, ← hq.eq, ← hr.eq]
  rw [e1] at m
  exact m
theorem rsub_is {s t r : ByteArray} {a b c : Int} (hs : Is s a) (ht : Is t b) (hr : Is r c) (h : a - b = c) (w : World) :
    Calls Tryz.prog 225 #[.string s, .string t] w (RetSt w r) := by
  refine (rsub_any s t (by have := hs.size; omega) (by have := ht.size; omega) w).mono fun e w' k => ?_
  rw [op2_ok hs ht] at k
  simp only [h] at k
  rw [outI_ok hr.small, ← hr.eq] at k
  exact k
theorem rmul_is {s t r : ByteArray} {a b c : Int} (hs : Is s a) (ht : Is t b) (hr : Is r c) (h : a * b = c) (w : World) :
    Calls Tryz.prog 269 #[.string s, .string t] w (RetSt w r) := by
  refine (rmul_any s t (by have := hs.size; omega) (by have := ht.size; omega) w).mono fun e w' k => ?_
  rw [op2_ok hs ht] at k
  simp only [h] at k
  rw [outI_ok hr.small, ← hr.eq] at k
  exact k
theorem rmul_over {s t : ByteArray} {a b : Int} (hs : Is s a) (ht : Is t b) (h : ¬ sm (a * b)) (w : World) :
    Calls Tryz.prog 269 #[.string s, .string t] w (RetE w) := by
  refine (rmul_any s t (by have := hs.size; omega) (by have := ht.size; omega) w).mono fun e w' k => ?_
  rw [op2_ok hs ht] at k
  simp only [outI_no h] at k
  exact k

set_option maxHeartbeats 2000000 in
set_option maxRecDepth 100000 in
theorem tvalid_any (x y : ByteArray) (hxs : x.size ≤ 9223372036854775807) (hys : y.size ≤ 9223372036854775807) (w : World) :
    Calls Tryz.prog 258 #[.agg #[.string x, .string y]] w (RetB w (okR x y)) := by
  have V1 := Lib.hid (fun w => rvalid_any x hxs w)
  have V2 := Lib.hid (fun w => rvalid_any y hys w)
  clear hxs hys
  cases hx : rdI x with
  | none =>
    rw [show okR x y = false by unfold okR; rw [hx]]
    rw [hx] at V1
    simp only [Option.isSome_none] at V1
    generalize (rdI y).isSome = b at *
    clear hx
    go_enter Tryz.func258, Tryz.ntmps258
    go_wp2_with (first
      | (go_at_call 223; (with_reducible refine (V1.out _).mono ?_); rintro e w1 ⟨rfl, hb1⟩; have cx := (hb1.cell (by simp)).trans (tbox_x w x y); have cy := (hb1.cell (by simp)).trans (tbox_y w x y))
      | (go_at_call 223; (with_reducible refine (V2.out _).mono ?_); rintro e w2 ⟨rfl, hb2⟩))
    go_ret
    exact ⟨rfl, below_up (below1 _ _) (below_up hb1 hb2)⟩
  | some n =>
    rw [hx] at V1
    simp only [Option.isSome_some] at V1
    cases hy : rdI y with
    | none =>
      rw [show okR x y = false by unfold okR; rw [hx, hy]]
      rw [hy] at V2
      simp only [Option.isSome_none] at V2
      clear hx hy
      go_enter Tryz.func258, Tryz.ntmps258
      go_wp2_with (first
        | (go_at_call 223; (with_reducible refine (V1.out _).mono ?_); rintro e w1 ⟨rfl, hb1⟩; have cx := (hb1.cell (by simp)).trans (tbox_x w x y); have cy := (hb1.cell (by simp)).trans (tbox_y w x y))
        | (go_at_call 223; (with_reducible refine (V2.out _).mono ?_); rintro e w2 ⟨rfl, hb2⟩))
      go_ret
      exact ⟨rfl, below_up (below1 _ _) (below_up hb1 hb2)⟩
    | some d =>
      rw [hy] at V2
      simp only [Option.isSome_some] at V2
      by_cases hd : 0 < d
      · have C := Lib.hid (fun w => rcmp_is (s := y) hy lit_0 (cmp_gt hd) w)
        have hgs : sm ((Int.gcd n d : Nat) : Int) := by
          have h1 : Int.gcd n d ≤ d.natAbs := by rw [Int.gcd_comm]; exact Int.gcd_le_natAbs_left _ (by omega)
          have h2 := rd_small hy
          unfold sm; rw [Int.natAbs_natCast]; omega
        obtain ⟨g, hg⟩ := Is.ex hgs
        have G := Lib.hid (fun w => rgcd_is (s := x) (t := y) hx hy hg rfl w)
        have hok : Hid (okR x y = (g.toList == [49])) := Lib.hid (by
          unfold okR; rw [hx, hy]
          simp only [decide_eq_true hd, Bool.true_and]
          by_cases k : Int.gcd n d = 1
          · rw [k]
            have : g = ⟨#[49]⟩ := hg.uniq (lit_1.cast (by omega))
            rw [this, ByteArray.toList_eq]; rfl
          · rw [decide_eq_false k]
            have := hg.differ lit_1 (by omega)
            rw [ByteArray.toList_eq (⟨#[49]⟩ : ByteArray)] at this
            exact this.symm)
        clear hx hy hd hgs hg
        go_enter Tryz.func258, Tryz.ntmps258
        go_wp2_with (first
          | (go_at_call 223; (with_reducible refine (V1.out _).mono ?_); rintro e w1 ⟨rfl, hb1⟩; have cx := (hb1.cell (by simp)).trans (tbox_x w x y); have cy := (hb1.cell (by simp)).trans (tbox_y w x y))
          | (go_at_call 223; (with_reducible refine (V2.out _).mono ?_); rintro e w2 ⟨rfl, hb2⟩; have cx := (hb2.cell (cell_lt cx)).trans cx; have cy := (hb2.cell (cell_lt cy)).trans cy)
          | (go_at_call 224; (with_reducible refine (C.out _).mono ?_); rintro e w3 ⟨rfl, hb3⟩; have cx := (hb3.cell (cell_lt cx)).trans cx; have cy := (hb3.cell (cell_lt cy)).trans cy)
          | (go_at_call 226; (with_reducible refine (G.out _).mono ?_); rintro e w4 ⟨rfl, hb4⟩))
        go_ret
        exact ⟨by rw [hok.out]; rfl, below_up (below1 _ _) (below_up hb1 (below_up hb2 (below_up hb3 hb4)))⟩
      · have hc : ∃ c, c ≤ 0 ∧ Hid (Lib.compareInt d 0 = c) := ⟨_, by unfold Lib.compareInt; split <;> (try split) <;> omega, Lib.hid rfl⟩
        obtain ⟨c, hc, hce⟩ := hc
        have C := Lib.hid (fun w => rcmp_is (s := y) hy lit_0 hce.out w)
        rw [show okR x y = false by unfold okR; rw [hx, hy]; simp only [decide_eq_false hd, Bool.false_and]]
        clear hx hy hd hce
        go_enter Tryz.func258, Tryz.ntmps258
        go_wp2_with (first
          | (go_at_call 223; (with_reducible refine (V1.out _).mono ?_); rintro e w1 ⟨rfl, hb1⟩; have cx := (hb1.cell (by simp)).trans (tbox_x w x y); have cy := (hb1.cell (by simp)).trans (tbox_y w x y))
          | (go_at_call 223; (with_reducible refine (V2.out _).mono ?_); rintro e w2 ⟨rfl, hb2⟩; have cx := (hb2.cell (cell_lt cx)).trans cx; have cy := (hb2.cell (cell_lt cy)).trans cy)
          | (go_at_call 224; (with_reducible refine (C.out _).mono ?_); rintro e w3 ⟨rfl, hb3⟩))
        go_ret
        exact ⟨rfl, below_up (below1 _ _) (below_up hb1 (below_up hb2 hb3))⟩

end Go.Proofs.YtffndcjmabjhiaaGreatDoor

namespace Go.Proofs.YtffndcjmabjhiaaGreatDoor
open Go.RowKit Num
open Go.Shelf

set_option maxHeartbeats 4000000 in
set_option maxRecDepth 100000 in
theorem tmake_any (x y : ByteArray) (hxs : x.size ≤ 9223372036854775807) (hys : y.size ≤ 9223372036854775807) (w : World) :
    Calls Tryz.prog 146 #[.string x, .string y] w (RetQ w (makeT x y)) := by
  have V1 := Lib.hid (fun w => rvalid_any x hxs w)
  have V2 := Lib.hid (fun w => rvalid_any y hys w)
  clear hxs hys
  cases hx : rdI x with
  | none =>
    rw [show makeT x y = none by unfold makeT; rw [hx]]
    rw [hx] at V1
    simp only [Option.isSome_none] at V1
    generalize (rdI y).isSome = b at *
    clear hx
    go_enter Tryz.func146, Tryz.ntmps146
    have hB := below1 w (.cells #[.string ⟨#[]⟩, .string ⟨#[]⟩] 29)
    have rb := RB.new w ⟨#[]⟩ ⟨#[]⟩
    go_wp2_with (first
      | (go_at_call 223; (with_reducible refine (V1.out _).mono ?_); rintro e w1 ⟨rfl, hb⟩; replace hB := below_up hB hb; replace rb := rb.below hb; clear hb; have r0 := rb.c0; have r1 := rb.c1; have f0 := rb.f0; have f1 := rb.f1)
      | (go_at_call 223; (with_reducible refine (V2.out _).mono ?_); rintro e w1 ⟨rfl, hb⟩; replace hB := below_up hB hb; replace rb := rb.below hb; clear hb; have r0 := rb.c0; have r1 := rb.c1; have f0 := rb.f0; have f1 := rb.f1))
    have RBF := rb.set ⟨#[]⟩ ⟨#[]⟩
    have e0 := RBF.c0
    have e1 := RBF.c1
    refine bodyPost_ret (v := .tuple #[.agg #[.string ⟨#[]⟩, .string ⟨#[]⟩], .int .i64 40]) (by simp [results, Tryz.results146, go_sem, e0, e1]) rfl ⟨rfl, below_new2 hB (Nat.le_refl _)⟩
  | some n =>
    rw [hx] at V1
    simp only [Option.isSome_some] at V1
    cases hy : rdI y with
    | none =>
      rw [show makeT x y = none by unfold makeT; rw [hx, hy]]
      rw [hy] at V2
      simp only [Option.isSome_none] at V2
      clear hx hy
      go_enter Tryz.func146, Tryz.ntmps146
      have hB := below1 w (.cells #[.string ⟨#[]⟩, .string ⟨#[]⟩] 29)
      have rb := RB.new w ⟨#[]⟩ ⟨#[]⟩
      go_wp2_with (first
        | (go_at_call 223; (with_reducible refine (V1.out _).mono ?_); rintro e w1 ⟨rfl, hb⟩; replace hB := below_up hB hb; replace rb := rb.below hb; clear hb; have r0 := rb.c0; have r1 := rb.c1; have f0 := rb.f0; have f1 := rb.f1)
        | (go_at_call 223; (with_reducible refine (V2.out _).mono ?_); rintro e w1 ⟨rfl, hb⟩; replace hB := below_up hB hb; replace rb := rb.below hb; clear hb; have r0 := rb.c0; have r1 := rb.c1; have f0 := rb.f0; have f1 := rb.f1))
      have RBF := rb.set ⟨#[]⟩ ⟨#[]⟩
      have e0 := RBF.c0
      have e1 := RBF.c1
      refine bodyPost_ret (v := .tuple #[.agg #[.string ⟨#[]⟩, .string ⟨#[]⟩], .int .i64 40]) (by simp [results, Tryz.results146, go_sem, e0, e1]) rfl ⟨rfl, below_new2 hB (Nat.le_refl _)⟩
    | some d =>
      rw [show makeT x y = makeQ n d by unfold makeT; rw [hx, hy]]
      rw [hy] at V2
      simp only [Option.isSome_some] at V2
      have hn : Is x n := hx
      have hd : Is y d := hy
      clear hx hy
      by_cases h0 : d = 0
      · subst h0
        obtain rfl : y = ⟨#[48]⟩ := hd.uniq lit_0
        rw [show makeQ n 0 = none from rfl]
        clear hn hd
        go_enter Tryz.func146, Tryz.ntmps146
        have hB := below1 w (.cells #[.string ⟨#[]⟩, .string ⟨#[]⟩] 29)
        have rb := RB.new w ⟨#[]⟩ ⟨#[]⟩
        go_wp2_with (first
          | (go_at_call 223; (with_reducible refine (V1.out _).mono ?_); rintro e w1 ⟨rfl, hb⟩; replace hB := below_up hB hb; replace rb := rb.below hb; clear hb; have r0 := rb.c0; have r1 := rb.c1; have f0 := rb.f0; have f1 := rb.f1)
          | (go_at_call 223; (with_reducible refine (V2.out _).mono ?_); rintro e w1 ⟨rfl, hb⟩; replace hB := below_up hB hb; replace rb := rb.below hb; clear hb; have r0 := rb.c0; have r1 := rb.c1; have f0 := rb.f0; have f1 := rb.f1))
        have RBF := rb.set ⟨#[]⟩ ⟨#[]⟩
        have e0 := RBF.c0
        have e1 := RBF.c1
        refine bodyPost_ret (v := .tuple #[.agg #[.string ⟨#[]⟩, .string ⟨#[]⟩], .int .i64 40]) (by simp [results, Tryz.results146, go_sem, e0, e1]) rfl ⟨rfl, below_new2 hB (Nat.le_refl _)⟩
      · have hd0 : (y.toList == [48]) = false := hd.differ0 h0
        rw [show makeQ n d = some (Rat.divInt n d) by unfold makeQ; rw [if_neg h0]]
        obtain ⟨hs1, hs2⟩ := divInt_small hn.small hd.small h0
        obtain ⟨X, hX⟩ := Is.ex hs1
        obtain ⟨Y, hY⟩ := Is.ex hs2
        have hXe : Hid (numT (some (Rat.divInt n d)) = X) := Lib.hid hX.eq.symm
        have hYe : Hid (denT (some (Rat.divInt n d)) = Y) := Lib.hid hY.eq.symm
        have key : ∀ (s t : ByteArray) (a b : Int), Is s a → Is t b → 0 < b → Rat.divInt a b = Rat.divInt n d → ∃ g, Hid (∀ W, Calls Tryz.prog 226 #[.string s, .string t] W (RetSt W g)) ∧
            Hid (∀ W, Calls Tryz.prog 227 #[.string s, .string g] W (RetD W X ⟨#[48]⟩)) ∧ Hid (∀ W, Calls Tryz.prog 227 #[.string t, .string g] W (RetD W Y ⟨#[48]⟩)) := by
          intro s t a b hs ht hb he
          have hgp : 0 < Int.gcd a b := Nat.pos_of_ne_zero fun e => by have := (Int.gcd_eq_zero_iff.1 e).2; omega
          have hgs : sm ((Int.gcd a b : Nat) : Int) := by
            have h1 : Int.gcd a b ≤ b.natAbs := by rw [Int.gcd_comm]; exact Int.gcd_le_natAbs_left _ (by omega)
            have h2 := ht.small
            unfold sm at h2 ⊢; rw [Int.natAbs_natCast]; omega
          obtain ⟨g, hg⟩ := Is.ex hgs
          obtain ⟨e1, e2⟩ := red_pos (n := a) hb
          rw [he] at e1 e2
          have z1 : a % ((Int.gcd a b : Nat) : Int) = 0 := Int.emod_eq_zero_of_dvd (Int.gcd_dvd_left _ _)
          have z2 : b % ((Int.gcd a b : Nat) : Int) = 0 := Int.emod_eq_zero_of_dvd (Int.gcd_dvd_right _ _)
          exact ⟨g, Lib.hid (fun W => rgcd_is hs ht hg rfl W), Lib.hid (fun W => rdiv_is hs hg (by omega) hX lit_0 e1 z1 W), Lib.hid (fun W => rdiv_is ht hg (by omega) hY lit_0 e2 z2 W)⟩
        by_cases hpos : 0 < d
        · obtain ⟨g, G, D1, D2⟩ := key x y n d hn hd hpos rfl
          have C := Lib.hid (fun w => rcmp_is hd lit_0 (cmp_gt hpos) w)
          clear key hn hd hX hY hs1 hs2 hpos h0
          go_enter Tryz.func146, Tryz.ntmps146
          have hB := below1 w (.cells #[.string ⟨#[]⟩, .string ⟨#[]⟩] 29)
          have rb := RB.new w ⟨#[]⟩ ⟨#[]⟩
          go_wp2_with (first
            | (go_at_call 223; (with_reducible refine (V1.out _).mono ?_); rintro e w1 ⟨rfl, hb⟩; replace hB := below_up hB hb; replace rb := rb.below hb; clear hb; have r0 := rb.c0; have r1 := rb.c1; have f0 := rb.f0; have f1 := rb.f1)
            | (go_at_call 223; (with_reducible refine (V2.out _).mono ?_); rintro e w1 ⟨rfl, hb⟩; replace hB := below_up hB hb; replace rb := rb.below hb; clear hb; have r0 := rb.c0; have r1 := rb.c1; have f0 := rb.f0; have f1 := rb.f1)
            | (go_at_call 224; (with_reducible refine (C.out _).mono ?_); rintro e w1 ⟨rfl, hb⟩; replace hB := below_up hB hb; replace rb := rb.below hb; clear hb; have r0 := rb.c0; have r1 := rb.c1; have f0 := rb.f0; have f1 := rb.f1)
            | (go_at_call 226; (with_reducible refine (G.out _).mono ?_); rintro e w1 ⟨rfl, hb⟩; replace hB := below_up hB hb; replace rb := rb.below hb; clear hb; have r0 := rb.c0; have r1 := rb.c1; have f0 := rb.f0; have f1 := rb.f1)
            | (go_at_call 227; (with_reducible refine (D1.out _).mono ?_); rintro e w1 ⟨rfl, hb⟩; replace hB := below_up hB hb; replace rb := rb.below hb; clear hb; have r0 := rb.c0; have r1 := rb.c1; have f0 := rb.f0; have f1 := rb.f1)
            | (go_at_call 227; (with_reducible refine (D2.out _).mono ?_); rintro e w1 ⟨rfl, hb⟩; replace hB := below_up hB hb; replace rb := rb.below hb; clear hb; have r0 := rb.c0; have r1 := rb.c1; have f0 := rb.f0; have f1 := rb.f1))
          have RBF := rb.set X Y
          have e0 := RBF.c0
          have e1 := RBF.c1
          refine bodyPost_ret (v := .tuple #[.agg #[.string X, .string Y], .int .i64 0]) (by simp [results, Tryz.results146, go_sem, e0, e1]) rfl ⟨by rw [hXe.out, hYe.out]; rfl, below_new2 hB (Nat.le_refl _)⟩
        · have hneg : d < 0 := by omega
          have hns := hn.small
          have hds := hd.small
          obtain ⟨N', hN'⟩ := Is.ex (z := 0 - n) (by unfold sm at hns ⊢; omega)
          obtain ⟨D', hD'⟩ := Is.ex (z := 0 - d) (by unfold sm at hds ⊢; omega)
          have S1 := Lib.hid (fun w => rsub_is lit_0 hn hN' rfl w)
          have S2 := Lib.hid (fun w => rsub_is lit_0 hd hD' rfl w)
          obtain ⟨g, G, D1, D2⟩ := key N' D' (0 - n) (0 - d) hN' hD' (by omega) (divInt_flip n h0)
          have C := Lib.hid (fun w => rcmp_is hd lit_0 (cmp_lt hneg) w)
          clear key hn hd hX hY hs1 hs2 hpos h0 hneg hns hds hN' hD'
          go_enter Tryz.func146, Tryz.ntmps146
          have hB := below1 w (.cells #[.string ⟨#[]⟩, .string ⟨#[]⟩] 29)
          have rb := RB.new w ⟨#[]⟩ ⟨#[]⟩
          go_wp2_with (first
            | (go_at_call 223; (with_reducible refine (V1.out _).mono ?_); rintro e w1 ⟨rfl, hb⟩; replace hB := below_up hB hb; replace rb := rb.below hb; clear hb; have r0 := rb.c0; have r1 := rb.c1; have f0 := rb.f0; have f1 := rb.f1)
            | (go_at_call 223; (with_reducible refine (V2.out _).mono ?_); rintro e w1 ⟨rfl, hb⟩; replace hB := below_up hB hb; replace rb := rb.below hb; clear hb; have r0 := rb.c0; have r1 := rb.c1; have f0 := rb.f0; have f1 := rb.f1)
            | (go_at_call 224; (with_reducible refine (C.out _).mono ?_); rintro e w1 ⟨rfl, hb⟩; replace hB := below_up hB hb; replace rb := rb.below hb; clear hb; have r0 := rb.c0; have r1 := rb.c1; have f0 := rb.f0; have f1 := rb.f1)
            | (go_at_call 225; (with_reducible refine (S1.out _).mono ?_); rintro e w1 ⟨rfl, hb⟩; replace hB := below_up hB hb; replace rb := rb.below hb; clear hb; have r0 := rb.c0; have r1 := rb.c1; have f0 := rb.f0; have f1 := rb.f1)
            | (go_at_call 225; (with_reducible refine (S2.out _).mono ?_); rintro e w1 ⟨rfl, hb⟩; replace hB := below_up hB hb; replace rb := rb.below hb; clear hb; have r0 := rb.c0; have r1 := rb.c1; have f0 := rb.f0; have f1 := rb.f1)
            | (go_at_call 226; (with_reducible refine (G.out _).mono ?_); rintro e w1 ⟨rfl, hb⟩; replace hB := below_up hB hb; replace rb := rb.below hb; clear hb; have r0 := rb.c0; have r1 := rb.c1; have f0 := rb.f0; have f1 := rb.f1)
            | (go_at_call 227; (with_reducible refine (D1.out _).mono ?_); rintro e w1 ⟨rfl, hb⟩; replace hB := below_up hB hb; replace rb := rb.below hb; clear hb; have r0 := rb.c0; have r1 := rb.c1; have f0 := rb.f0; have f1 := rb.f1)
            | (go_at_call 227; (with_reducible refine (D2.out _).mono ?_); rintro e w1 ⟨rfl, hb⟩; replace hB := below_up hB hb; replace rb := rb.below hb; clear hb; have r0 := rb.c0; have r1 := rb.c1; have f0 := rb.f0; have f1 := rb.f1))
          have RBF := rb.set X Y
          have e0 := RBF.c0
          have e1 := RBF.c1
          refine bodyPost_ret (v := .tuple #[.agg #[.string X, .string Y], .int .i64 0]) (by simp [results, Tryz.results146, go_sem, e0, e1]) rfl ⟨by rw [hXe.out, hYe.out]; rfl, below_new2 hB (Nat.le_refl _)⟩

end Go.Proofs.YtffndcjmabjhiaaGreatDoor
