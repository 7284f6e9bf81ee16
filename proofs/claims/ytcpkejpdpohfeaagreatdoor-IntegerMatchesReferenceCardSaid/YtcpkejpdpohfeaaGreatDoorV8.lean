/- The walk of the reference implementation's 'times'. Conditions: sizes. -/
import Derived.Test.YtcpkejpdpohfeaaGreatDoorV7
import Derived.Deep.RegionHeld3
namespace Go.Proofs.YtcpkejpdpohfeaaGreatDoor
open Go.RowKit Num
open Go.Shelf

theorem nv_set : ∀ (l : List Int) (j : Nat) (z : Int), j < l.length → nv 10 (l.set j z) = nv 10 l + ((10 : Nat) : Int) ^ j * (z - nth l j)
  | [], j, z, h => by simp at h
  | x :: l, 0, z, _ => by
    simp only [List.set_cons_zero, nv, nth, List.getElem?_cons_zero, Option.getD_some, Int.pow_zero, Int.one_mul]
    omega
  | x :: l, j + 1, z, h => by
    have ih := nv_set l j z (by simpa using h)
    simp only [List.set_cons_succ, nv, nth, List.getElem?_cons_succ] at ih ⊢
    rw [ih, Int.pow_succ, Int.mul_add, Int.add_assoc]
    congr 2
    rw [Int.mul_comm (((10 : Nat) : Int) ^ j) ((10 : Nat) : Int), Int.mul_assoc]
theorem dig_set {l : List Int} (h : Dig 10 l) (j : Nat) {z : Int} (h0 : 0 ≤ z) (h1 : z < 10) : Dig 10 (l.set j z) := fun y hy => by
  rcases List.mem_or_eq_of_mem_set hy with k | k
  · exact h y k
  · subst k; exact ⟨h0, h1⟩
theorem dig_nth {l : List Int} (h : Dig 10 l) (j : Nat) : 0 ≤ nth l j ∧ nth l j ≤ 9 := by
  unfold nth
  by_cases k : j < l.length
  · rw [List.getElem?_eq_getElem k]
    have := h _ (List.getElem_mem k)
    simp only [Option.getD_some]
    omega
  · rw [List.getElem?_eq_none (by omega)]; simp

/-- The outer loop's invariant, and the inner one's. -/
def TO (a b i : Nat) (out : List Int) : Prop := out.length = (dg 10 a).length + (dg 10 b).length ∧ Dig 10 out ∧ nv 10 out = nv 10 ((dg 10 a).take i) * b
def TN (a b i k : Nat) (c : Int) (out : List Int) : Prop := out.length = (dg 10 a).length + (dg 10 b).length ∧ Dig 10 out ∧
  nv 10 out + ((10 : Nat) : Int) ^ (i + k) * c = nv 10 ((dg 10 a).take i) * b + ((10 : Nat) : Int) ^ i * (dg 10 a)[i]?.getD 0 * nv 10 ((dg 10 b).take k)
theorem TO.start (a b : Nat) : TO a b 0 (List.replicate ((dg 10 a).length + (dg 10 b).length) 0) := by
  refine ⟨List.length_replicate, fun y hy => ?_, ?_⟩
  · rw [List.eq_of_mem_replicate hy]; omega
  · have : ∀ n, nv 10 (List.replicate n 0) = 0 := fun n => by
      induction n with
      | zero => rfl
      | succ n ih => rw [List.replicate_succ, nv, ih]; rfl
    rw [this]
    simp [nv]
theorem TO.inner {a b i : Nat} {out : List Int} (h : TO a b i out) : TN a b i 0 0 out := ⟨h.1, h.2.1, by rw [h.2.2]; simp [nv]⟩
theorem TN.step {a b i k : Nat} {c x y n : Int} {out : List Int} (h : TN a b i k c out) (hx : x = (dg 10 a)[i]?.getD 0) (hy : y = (dg 10 b)[k]?.getD 0) (hn : n = nth out (i + k) + c + x * y) (hik : i + k < out.length) :
    TN a b i (k + 1) (n / 10) (out.set (i + k) (n % 10)) := by
  obtain ⟨h1, h2, h3⟩ := h
  refine ⟨by rw [List.length_set, h1], dig_set h2 _ (by omega) (by omega), ?_⟩
  rw [nv_set _ _ _ hik, nv_take_succ, ← hy, ← hx, ← Nat.add_assoc, Int.pow_succ]
  rw [← hx] at h3
  have e1 : n = 10 * (n / 10) + n % 10 := by omega
  have e2 : ((10 : Nat) : Int) ^ (i + k) * (n % 10 - nth out (i + k)) + ((10 : Nat) : Int) ^ (i + k) * ((10 : Nat) : Int) * (n / 10) = ((10 : Nat) : Int) ^ (i + k) * c + ((10 : Nat) : Int) ^ (i + k) * (x * y) := by
    rw [Int.mul_assoc, ← Int.mul_add, ← Int.mul_add]
    congr 1
    have : ((10 : Nat) : Int) = 10 := rfl
    omega
  have e3 : ((10 : Nat) : Int) ^ i * x * (nv 10 ((dg 10 b).take k) + ((10 : Nat) : Int) ^ k * y) = ((10 : Nat) : Int) ^ i * x * nv 10 ((dg 10 b).take k) + ((10 : Nat) : Int) ^ (i + k) * (x * y) := by
    rw [Int.mul_add, Int.pow_add]
    congr 1
    rw [Int.mul_assoc, Int.mul_assoc, ← Int.mul_assoc x, Int.mul_comm x, Int.mul_assoc]
  rw [e3]
  omega
theorem TN.bound {a b i k : Nat} {c : Int} {out : List Int} (h : TN a b i k c out) (hi : i < (dg 10 a).length) (hgo : k < (dg 10 b).length ∨ 0 < c) : i + k < out.length := by
  obtain ⟨h1, h2, h3⟩ := h
  rw [h1]
  by_cases hk : k < (dg 10 b).length
  · omega
  · have hc : 0 < c := by omega
    rw [nv_all hk, ← Int.add_mul, ← nv_take_succ] at h3
    have hd := (dig_dg (B := 10) (by omega) a).take (i + 1)
    have hA := nv_lt hd
    rw [List.length_take, Nat.min_eq_left (by omega)] at hA
    obtain ⟨A, hAe⟩ : ∃ A : Nat, nv 10 ((dg 10 a).take (i + 1)) = A := ⟨(nv 10 ((dg 10 a).take (i + 1))).toNat, by have := nv_nonneg hd; omega⟩
    rw [hAe] at h3 hA
    have hA' : A < 10 ^ (i + 1) := by rw [← Int.natCast_pow] at hA; omega
    have hB := dg_len_lt (B := 10) (by omega) b
    have hP := Nat.mul_lt_mul'' hA' hB
    rw [← Nat.pow_add] at hP
    have hn := nv_nonneg h2
    have hq : ((10 ^ (i + k) : Nat) : Int) * 1 ≤ ((10 ^ (i + k) : Nat) : Int) * c := Int.mul_le_mul_of_nonneg_left (by omega) (Int.natCast_nonneg _)
    have hpw : ((10 : Nat) : Int) ^ (i + k) = ((10 ^ (i + k) : Nat) : Int) := (Int.natCast_pow _ _).symm
    have hAb : ((A * b : Nat) : Int) = (A : Int) * (b : Int) := Int.natCast_mul _ _
    rw [hpw] at h3
    have hlt : 10 ^ (i + k) < 10 ^ (i + 1 + (dg 10 b).length) := by omega
    have := (Nat.pow_lt_pow_iff_right (by omega : 1 < 10)).1 hlt
    omega
theorem TN.done {a b i k : Nat} {out : List Int} (h : TN a b i k 0 out) (hk : ¬ k < (dg 10 b).length) : TO a b (i + 1) out := by
  obtain ⟨h1, h2, h3⟩ := h
  refine ⟨h1, h2, ?_⟩
  rw [nv_all hk, Int.mul_zero, Int.add_zero] at h3
  rw [h3, nv_take_succ, Int.add_mul]

/-- 'make([]int, n)'. -/
theorem make_int2 {w : World} {ops : Array Oper} {rest : List Oper} {o : Oper} {a : Act} {Q : Exit → Act → World → Prop} (hg : o.guard = none) (l c : Operand)
    (hop : o.op = Op.makeSlice 44 l c) (L : Nat) (z : Int) (hz : z = L) (hl : a.eval l = .int .i64 z) (hc : a.eval c = .int .i64 z) (hL : L ≤ 900000)
    (hK : ∀ w', w'.ownsRow w.heap.size 3 1 (.slice (some ⟨w.heap.size, 0, none⟩) L L) (List.replicate L (0 : Int)).length ((List.replicate L (0 : Int)).map (Value.int .i64)) → Below w.heap.size w w' → wpList Tryz.prog ops Q rest (a.put o.dst (.slice (some ⟨w.heap.size, 0, none⟩) L L)) w') :
    wpList Tryz.prog ops Q (o :: rest) a w := by
  subst hz
  obtain ⟨i0, hi, hz0, hz1, hz2⟩ := info_parts Tryz.info3
  refine wpList_plain hg fun K hK' => ?_
  obtain ⟨w', hrun, r1, r2⟩ := run_make_full (P := Tryz.prog) w w.heap.size 44 3 i0 (.int .i64 0) 1 Tryz.underlying44 hi hz0 hz1 .i64 .i64 L (by rw [hz2]; omega) (by unfold maxLen; omega) (Nat.le_refl _)
  unfold Oper.wp
  simp [execOp, hop, hl, hc, hrun, Result.andThen]
  refine hK' _ _ (hK w' ?_ ((Below.refl _ _).grown r2 (Nat.le_refl _) (fun k e => by cases e)))
  have e : (madeCells (Value.int .i64 0).cells (L * 1)).toList = (List.replicate L (0 : Int)).map (Value.int .i64) := by
    rw [Nat.mul_one, List.map_replicate]
    exact toList_madeCells_one _ _
  rw [List.length_replicate, ← e]; exact r1

set_option maxHeartbeats 4000000 in
set_option maxRecDepth 100000 in
theorem rtimes_any (a b : Nat) (v u : Value) (w : World) (hv : Rd w v (dg 10 a)) (hu : Rd w u (dg 10 b)) (ha : (dg 10 a).length ≤ 2000) (hb : (dg 10 b).length ≤ 2000) :
    Calls Tryz.prog 51 #[v, u] w (RetT10 w (a * b)) := by
  obtain ⟨A, c1, rfl, _, _, hxa⟩ := hv
  obtain ⟨A', c2, rfl, _, _, hxb⟩ := hu
  have HXA := Lib.hid hxa
  have HXB := Lib.hid hxb
  clear hxa hxb
  have PS := Lib.hid (fun (i k : Nat) (c n : Int) out (h : TN a b i k c out) hn hik => h.step (n := n) rfl rfl hn hik)
  have PB := Lib.hid (fun (i k : Nat) (c : Int) out (h : TN a b i k c out) hi hgo => h.bound hi hgo)
  have PD := Lib.hid (fun (i k : Nat) out (h : TN a b i k 0 out) hk => h.done hk)
  have PE := Lib.hid (fun out (h : TO a b (dg 10 a).length out) => (show dg 10 (nv 10 out).toNat = dg 10 (a * b) by rw [h.2.2, nv_all (by omega), ← Int.natCast_mul]; rfl))
  have P0 := Lib.hid (TO.start a b)
  have PL := Lib.hid (fun i out (h : TO a b i out) => h.1)
  have PL2 := Lib.hid (fun i k c out (h : TN a b i k c out) => h.1)
  have PX := Lib.hid (fun i => dig_at a i)
  have PY := Lib.hid (fun i => dig_at b i)
  have OY := Lib.hid (fun i (h : ¬ i < (dg 10 b).length) => dig_out h)
  generalize hla : (dg 10 a).length = la at *
  generalize hlb : (dg 10 b).length = lb at *
  clear hla hlb
  have hL0 : IntKind.i64.wrap ((la : Int) + (lb : Int)) = (la : Int) + (lb : Int) := IntWalk.i64_in _ (by omega)
  go_enter Tryz.func51, Tryz.ntmps51
  go_wp2_with (at_make; refine make_int2 rfl _ _ rfl (la + lb) ((la : Int) + (lb : Int)) (by omega) rfl rfl (by omega) ?_; intro w2 hown hb2)
  rw [List.length_replicate] at hown
  have harr0 := Lib.hid (Arr.of_own hown)
  clear hown
  go_loopg [6, 7, 8, 9] la (fun kx s6 s7 s8 s9 wr => ∃ (i : Nat) (out : List Int), s6 = .int .i64 i ∧ i ≤ la ∧ la ≤ kx + i ∧ Hid (TO a b i out) ∧ Hid (Arr wr w.heap.size out) ∧ Below w.heap.size w wr)
  case atStart => exact ⟨0, _, rfl, by omega, by omega, P0, harr0, hb2⟩
  case round =>
    obtain ⟨i, out, rfl, hi, hkx, hI, harr, hnx⟩ := hrel
    have hw1 : IntKind.i64.wrap ((i : Int) + 1) = (i : Int) + 1 := IntWalk.i64_in _ (by omega)
    have hlen := PL.out i out hI.out
    by_cases hend : ¬ i < la
    · obtain rfl : i = la := by omega
      have h1' : ¬ (i : Int) < (i : Int) := by omega
      have HR := Lib.hid (harr.out.rd hlen (by omega))
      have TR := Lib.hid (fun HR => trim_own (.slice (some ⟨w.heap.size, 0, none⟩) (i + lb) (i + lb)) out wr HR hI.out.2.1)
      have hfin := Lib.hid (PE.out out hI.out)
      clear hlen
      go_wp2_with (go_at_call 37; (with_reducible refine (TR.out HR.out).mono ?_); rintro e w1 ⟨v1, rfl, hr1, rfl, -⟩)
      go_ret
      exact ⟨_, rfl, by rw [← hfin.out]; exact hr1, hnx⟩
    · have k1 : i < la := by omega
      have k1' : (i : Int) < (la : Int) := by omega
      have HIN := Lib.hid (TO.inner hI.out)
      have PSi := Lib.hid (PS.out i)
      have PBi := Lib.hid (PB.out i)
      have PDi := Lib.hid (PD.out i)
      have PLi := Lib.hid (PL2.out i)
      obtain ⟨hx0, hx9⟩ := PX.out i
      have hcA0 : ∃ g o, A = some ⟨g, o, none⟩ ∧ w.cell? ⟨g, o + i, none⟩ = some (.int .i64 ((dg 10 a)[i]?.getD 0)) := by
        obtain ⟨g, o, hA, hy⟩ := HXA.out (by omega)
        exact ⟨g, o, hA, hy i k1⟩
      obtain ⟨b1, o1, rfl, hcA⟩ := hcA0
      have HCA := Lib.hid hcA
      clear hcA hend hlen
      generalize (dg 10 a)[i]?.getD 0 = x at *
      go_wp2
      go_loopg [7, 8, 9] (la + lb + 1) (fun kx s7 s8 s9 wx => ∃ (k : Nat) (c : Int) (o : List Int), s7 = .int .i64 c ∧ s8 = .int .i64 k ∧ k ≤ la + lb ∧ la + lb + 1 ≤ kx + k ∧ 0 ≤ c ∧ c ≤ 9 ∧ Hid (TN a b i k c o) ∧ Hid (Arr wx w.heap.size o) ∧ Below w.heap.size w wx)
      case atStart => exact ⟨0, 0, out, rfl, rfl, by omega, by omega, by omega, by omega, HIN, harr, hnx⟩
      case round =>
        obtain ⟨k, c, o, rfl, rfl, hkl, hkx2, hc0, hc9, hN, harx, hnx2⟩ := hrel
        have hlo := PLi.out k c o hN.out
        by_cases hend : ¬ k < lb ∧ c = 0
        · obtain ⟨h1, rfl⟩ := hend
          have h1' : ¬ (k : Int) < (lb : Int) := by omega
          have hnew := Lib.hid (PDi.out k o hN.out h1)
          clear hlo
          go_wp2
          go_roundg (la - (i + 1))
          case measure => omega
          case rel => exact ⟨i + 1, o, by go_num, by omega, by omega, hnew, harx, hnx2⟩
        · have hik : i + k < o.length := PBi.out k c o hN.out k1 (by omega)
          have hik2 : i + k < la + lb := by omega
          have hik3 : (i : Int) + (k : Int) < (la : Int) + (lb : Int) := by omega
          have hw2 : IntKind.i64.wrap ((i : Int) + (k : Int)) = (i : Int) + (k : Int) := IntWalk.i64_in _ (by omega)
          have hw3 : IntKind.i64.wrap ((k : Int) + 1) = (k : Int) + 1 := IntWalk.i64_in _ (by omega)
          have hcell := harx.out.cell hik
          have hfr := harx.out.frozen (i + k)
          have hset := Lib.hid (fun z => harx.out.set hik z)
          obtain ⟨hn0, hn9⟩ := dig_nth hN.out.2.1 (i + k)
          have HST := Lib.hid (fun n hn => PSi.out k c n o hN.out hn hik)
          obtain ⟨hy0, hy9⟩ := PY.out k
          have OYk := Lib.hid (OY.out k)
          generalize hoe : nth o (i + k) = d at *
          clear hoe hlo hik
          by_cases k2 : k < lb
          · have k2' : (k : Int) < (lb : Int) := by omega
            have hcB0 : ∃ g o, A' = some ⟨g, o, none⟩ ∧ wr.cell? ⟨g, o + k, none⟩ = some (.int .i64 ((dg 10 b)[k]?.getD 0)) := by
              obtain ⟨g, q, hA, hy⟩ := HXB.out (by omega)
              exact ⟨g, q, hA, (hnx2.cell (cell_lt (hy k k2))).trans (hy k k2)⟩
            obtain ⟨b2, o2, rfl, hcB⟩ := hcB0
            have hcA := (hnx2.cell (cell_lt HCA.out)).trans HCA.out
            generalize (dg 10 b)[k]?.getD 0 = y at *
            obtain ⟨hp0, hp9⟩ : 0 ≤ x * y ∧ x * y ≤ 81 := by
              refine ⟨Int.mul_nonneg hx0 hy0, ?_⟩
              have := Int.mul_le_mul hx9 hy9 hy0 (by omega : (0 : Int) ≤ 9)
              omega
            have hw4 : IntKind.i64.wrap (x * y) = x * y := IntWalk.i64_in _ (by omega)
            have hw5 : IntKind.i64.wrap (d + c + x * y) = d + c + x * y := IntWalk.i64_in _ (by omega)
            have hmixed : Tryz.prog.follows .mixedOrders = true := by kernel_rfl
            have HN := Lib.hid (HST.out (d + c + x * y) rfl)
            clear hend
            go_wp2
            go_region
            all_goals go_wp2
            go_roundg (la + lb + 1 - (k + 1))
            case measure => omega
            case rel => exact ⟨k + 1, (d + c + x * y) / 10, _, by go_num, by go_num, by omega, by omega, by omega, by omega, HN, Lib.hid (hset.out _), (hnx2.drew.setCell (p := ⟨w.heap.size, i + k, none⟩) (Nat.le_refl _) _)⟩
          · have k2' : ¬ (k : Int) < (lb : Int) := by omega
            have hcp : 0 < c := by omega
            have ey := OYk.out k2
            have HN := Lib.hid (HST.out (d + c) (by rw [ey, Int.mul_zero, Int.add_zero]))
            clear ey hend hy0 hy9
            go_wp2
            go_roundg (la + lb + 1 - (k + 1))
            case measure => omega
            case rel => exact ⟨k + 1, (d + c) / 10, _, by go_num, by go_num, by omega, by omega, by omega, by omega, HN, Lib.hid (hset.out _), (hnx2.setCell (p := ⟨w.heap.size, i + k, none⟩) (Nat.le_refl _) _)⟩

end Go.Proofs.YtcpkejpdpohfeaaGreatDoor
