/- The walk of the reference implementation's 'times'. Conditions: sizes. The walk of the reference implementation's 'divided'. Conditions: sizes. The walk of the reference implementation's 'divided', on its plain law. Conditions: sizes. The walks of the reference implementation's 'Mul', 'Div', 'Gcd'. Conditions: sizes. -/
import Derived.Test.YtffndcjmabjhiaaGreatDoorK11
import Derived.Deep.RegionHeld3
namespace Go.Proofs.YtffndcjmabjhiaaGreatDoor
open Go.RowKit Num
open Go.Shelf

theorem nv_set : ∀ (l : List Int) (j : Nat) (z : Int), j < l.length → nv 10 (l.set j z) = nv 10 l + ((10 : Nat) : Int) ^ j * (z - nth l j)
  | [], j, z, h => by simp at h
  | x :: l, 0, z, _ => by
    simp only [List.set_cons_zero, nv, nth, List.getElem?_cons_zero, Option.getD_some, Int.pow_zero, Int.one_mul]
    omega
  | x :: l, j + 1, z, h => by
    have ih := nv_set l j z (by simpa using h)
    simp only [List.set_cons_succ, nv, nth, List.getElem?_cons_succ] at ih ⊢
    rw [ih, Int.pow_succ, Int.mul_add, Int.add_assoc]
    congr 2
    rw [Int.mul_comm (((10 : Nat) : Int) ^ j) ((10 : Nat) : Int), Int.mul_assoc]
theorem dig_set {l : List Int} (h : Dig 10 l) (j : Nat) {z : Int} (h0 : 0 ≤ z) (h1 : z < 10) : Dig 10 (l.set j z) := fun y hy => by
  rcases List.mem_or_eq_of_mem_set hy with k | k
  · exact h y k
  · subst k; exact ⟨h0, h1⟩
theorem dig_nth {l : List Int} (h : Dig 10 l) (j : Nat) : 0 ≤ nth l j ∧ nth l j ≤ 9 := by
  unfold nth
  by_cases k : j < l.length
  · rw [List.getElem?_eq_getElem k]
    have := h _ (List.getElem_mem k)
    simp only [Option.getD_some]
    omega
  · rw [List.getElem?_eq_none (by omega)]; simp

/-- The outer loop's invariant, and the inner one's. -/
def TO (a b i : Nat) (out : List Int) : Prop := out.length = (dg 10 a).length + (dg 10 b).length ∧ Dig 10 out ∧ nv 10 out = nv 10 ((dg 10 a).take i) * b
def TN (a b i k : Nat) (c : Int) (out : List Int) : Prop := out.length = (dg 10 a).length + (dg 10 b).length ∧ Dig 10 out ∧
  nv 10 out + ((10 : Nat) : Int) ^ (i + k) * c = nv 10 ((dg 10 a).take i) * b + ((10 : Nat) : Int) ^ i * (dg 10 a)[i]?.getD 0 * nv 10 ((dg 10 b).take k)
theorem TO.start (a b : Nat) : TO a b 0 (List.replicate ((dg 10 a).length + (dg 10 b).length) 0) := by
  refine ⟨List.length_replicate, fun y hy => ?_, ?_⟩
  · rw [List.eq_of_mem_replicate hy]; omega
  · have : ∀ n, nv 10 (List.replicate n 0) = 0 := fun n => by
      induction n with
      | zero => rfl
      | succ n ih => rw [List.replicate_succ, nv, ih]; rfl
    rw [this]
    simp [nv]
theorem TO.inner {a b i : Nat} {out : List Int} (h : TO a b i out) : TN a b i 0 0 out := ⟨h.1, h.2.1, by rw [h.2.2]; simp [nv]⟩
theorem TN.step {a b i k : Nat} {c x y n : Int} {out : List Int} (h : TN a b i k c out) (hx : x = (dg 10 a)[i]?.getD 0) (hy : y = (dg 10 b)[k]?.getD 0) (hn : n = nth out (i + k) + c + x * y) (hik : i + k < out.length) :
    TN a b i (k + 1) (n / 10) (out.set (i + k) (n % 10)) := by
  obtain ⟨h1, h2, h3⟩ := h
  refine ⟨by rw [List.length_set, h1], dig_set h2 _ (by omega) (by omega), ?_⟩
  rw [nv_set _ _ _ hik, nv_take_succ, ← hy, ← hx, ← Nat.add_assoc, Int.pow_succ]
  rw [← hx] at h3
  have e1 : n = 10 * (n / 10) + n % 10 := by omega
  have e2 : ((10 : Nat) : Int) ^ (i + k) * (n % 10 - nth out (i + k)) + ((10 : Nat) : Int) ^ (i + k) * ((10 : Nat) : Int) * (n / 10) = ((10 : Nat) : Int) ^ (i + k) * c + ((10 : Nat) : Int) ^ (i + k) * (x * y) := by
    rw [Int.mul_assoc, ← Int.mul_add, ← Int.mul_add]
    congr 1
    have : ((10 : Nat) : Int) = 10 := rfl
    omega
  have e3 : ((10 : Nat) : Int) ^ i * x * (nv 10 ((dg 10 b).take k) + ((10 : Nat) : Int) ^ k * y) = ((10 : Nat) : Int) ^ i * x * nv 10 ((dg 10 b).take k) + ((10 : Nat) : Int) ^ (i + k) * (x * y) := by
    rw [Int.mul_add, Int.pow_add]
    congr 1
    rw [Int.mul_assoc, Int.mul_assoc, ← Int.mul_assoc x, Int.mul_comm x, Int.mul_assoc]
  rw [e3]
  omega
theorem TN.bound {a b i k : Nat} {c : Int} {out : List Int} (h : TN a b i k c out) (hi : i < (dg 10 a).length) (hgo : k < (dg 10 b).length ∨ 0 < c) : i + k < out.length := by
  obtain ⟨h1, h2, h3⟩ := h
  rw [h1]
  by_cases hk : k < (dg 10 b).length
  · omega
  · have hc : 0 < c := by omega
    rw [nv_all hk, ← Int.add_mul, ← nv_take_succ] at h3
    have hd := (dig_dg (B := 10) (by omega) a).take (i + 1)
    have hA := nv_lt hd
    rw [List.length_take, Nat.min_eq_left (by omega)] at hA
    obtain ⟨A, hAe⟩ : ∃ A : Nat, nv 10 ((dg 10 a).take (i + 1)) = A := ⟨(nv 10 ((dg 10 a).take (i + 1))).toNat, by have := nv_nonneg hd; omega⟩
    rw [hAe] at h3 hA
    have hA' : A < 10 ^ (i + 1) := by rw [← Int.natCast_pow] at hA; omega
    have hB := dg_len_lt (B := 10) (by omega) b
    have hP := Nat.mul_lt_mul'' hA' hB
    rw [← Nat.pow_add] at hP
    have hn := nv_nonneg h2
    have hq : ((10 ^ (i + k) : Nat) : Int) * 1 ≤ ((10 ^ (i + k) : Nat) : Int) * c := Int.mul_le_mul_of_nonneg_left (by omega) (Int.natCast_nonneg _)
    have hpw : ((10 : Nat) : Int) ^ (i + k) = ((10 ^ (i + k) : Nat) : Int) := (Int.natCast_pow _ _).symm
    have hAb : ((A * b : Nat) : Int) = (A : Int) * (b : Int) := Int.natCast_mul _ _
    rw [hpw] at h3
    have hlt : 10 ^ (i + k) < 10 ^ (i + 1 + (dg 10 b).length) := by omega
    have := (Nat.pow_lt_pow_iff_right (by omega : 1 < 10)).1 hlt
    omega
theorem TN.done {a b i k : Nat} {out : List Int} (h : TN a b i k 0 out) (hk : ¬ k < (dg 10 b).length) : TO a b (i + 1) out := by
  obtain ⟨h1, h2, h3⟩ := h
  refine ⟨h1, h2, ?_⟩
  rw [nv_all hk, Int.mul_zero, Int.add_zero] at h3
  rw [h3, nv_take_succ, Int.add_mul]

/-- 'make([]int, n)'. -/
theorem make_int2 {w : World} {ops : Array Oper} {rest : List Oper} {o : Oper} {a : Act} {Q : Exit → Act → World → Prop} (hg : o.guard = none) (l c : Operand)
    (hop : o.op = Op.makeSlice 41 l c) (L : Nat) (z : Int) (hz : z = L) (hl : a.eval l = .int .i64 z) (hc : a.eval c = .int .i64 z) (hL : L ≤ 900000)
    (hK : ∀ w', w'.ownsRow w.heap.size 3 1 (.slice (some ⟨w.heap.size, 0, none⟩) L L) (List.replicate L (0 : Int)).length ((List.replicate L (0 : Int)).map (Value.int .i64)) → Below w.heap.size w w' → wpList Tryz.prog ops Q rest (a.put o.dst (.slice (some ⟨w.heap.size, 0, none⟩) L L)) w') :
    wpList Tryz.prog ops Q (o :: rest) a w := by
  subst hz
  obtain ⟨i0, hi, hz0, hz1, hz2⟩ := info_parts Tryz.info3
  refine wpList_plain hg fun K hK' => ?_
  obtain ⟨w', hrun, r1, r2⟩ := run_make_full (P := Tryz.prog) w w.heap.size 41 3 i0 (.int .i64 0) 1 Tryz.underlying41 hi hz0 hz1 .i64 .i64 L (by rw [hz2]; omega) (by unfold maxLen; omega) (Nat.le_refl _)
  unfold Oper.wp
  simp [execOp, hop, hl, hc, hrun, Result.andThen]
  refine hK' _ _ (hK w' ?_ ((Below.refl _ _).grown r2 (Nat.le_refl _) (fun k e => by cases e)))
  have e : (madeCells (Value.int .i64 0).cells (L * 1)).toList = (List.replicate L (0 : Int)).map (Value.int .i64) := by
    rw [Nat.mul_one, List.map_replicate]
    exact toList_madeCells_one _ _
  rw [List.length_replicate, ← e]; exact r1

set_option maxHeartbeats 4000000 in
set_option maxRecDepth 100000 in
theorem rtimes_any (a b : Nat) (v u : Value) (w : World) (hv : Rd w v (dg 10 a)) (hu : Rd w u (dg 10 b)) (ha : (dg 10 a).length ≤ 2000) (hb : (dg 10 b).length ≤ 2000) :
    Calls Tryz.prog 313 #[v, u] w (RetT10 w (a * b)) := by
  obtain ⟨A, c1, rfl, _, _, hxa⟩ := hv
  obtain ⟨A', c2, rfl, _, _, hxb⟩ := hu
  have HXA := Lib.hid hxa
  have HXB := Lib.hid hxb
  clear hxa hxb
  have PS := Lib.hid (fun (i k : Nat) (c n : Int) out (h : TN a b i k c out) hn hik => h.step (n := n) rfl rfl hn hik)
  have PB := Lib.hid (fun (i k : Nat) (c : Int) out (h : TN a b i k c out) hi hgo => h.bound hi hgo)
  have PD := Lib.hid (fun (i k : Nat) out (h : TN a b i k 0 out) hk => h.done hk)
  have PE := Lib.hid (fun out (h : TO a b (dg 10 a).length out) => (show dg 10 (nv 10 out).toNat = dg 10 (a * b) by rw [h.2.2, nv_all (by omega), ← Int.natCast_mul]; rfl))
  have P0 := Lib.hid (TO.start a b)
  have PL := Lib.hid (fun i out (h : TO a b i out) => h.1)
  have PL2 := Lib.hid (fun i k c out (h : TN a b i k c out) => h.1)
  have PX := Lib.hid (fun i => dig_at a i)
  have PY := Lib.hid (fun i => dig_at b i)
  have OY := Lib.hid (fun i (h : ¬ i < (dg 10 b).length) => dig_out h)
  generalize hla : (dg 10 a).length = la at *
  generalize hlb : (dg 10 b).length = lb at *
  clear hla hlb
  have hL0 : IntKind.i64.wrap ((la : Int) + (lb : Int)) = (la : Int) + (lb : Int) := IntWalk.i64_in _ (by omega)
  go_enter Tryz.func313, Tryz.ntmps313
  go_wp2_with (at_make; refine make_int2 rfl _ _ rfl (la + lb) ((la : Int) + (lb : Int)) (by omega) rfl rfl (by omega) ?_; intro w2 hown hb2)
  rw [List.length_replicate] at hown
  have harr0 := Lib.hid (Arr.of_own hown)
  clear hown
  go_loopg [6, 7, 8, 9] la (fun kx s6 s7 s8 s9 wr => ∃ (i : Nat) (out : List Int), s6 = .int .i64 i ∧ i ≤ la ∧ la ≤ kx + i ∧ Hid (TO a b i out) ∧ Hid (Arr wr w.heap.size out) ∧ Below w.heap.size w wr)
  case atStart => exact ⟨0, _, rfl, by omega, by omega, P0, harr0, hb2⟩
  case round =>
    obtain ⟨i, out, rfl, hi, hkx, hI, harr, hnx⟩ := hrel
    have hw1 : IntKind.i64.wrap ((i : Int) + 1) = (i : Int) + 1 := IntWalk.i64_in _ (by omega)
    have hlen := PL.out i out hI.out
    by_cases hend : ¬ i < la
    · obtain rfl : i = la := by omega
      have h1' : ¬ (i : Int) < (i : Int) := by omega
      have HR := Lib.hid (harr.out.rd hlen (by omega))
      have TR := Lib.hid (fun HR => trim_own (.slice (some ⟨w.heap.size, 0, none⟩) (i + lb) (i + lb)) out wr HR hI.out.2.1)
      have hfin := Lib.hid (PE.out out hI.out)
      clear hlen
      go_wp2_with (go_at_call 321; (with_reducible refine (TR.out HR.out).mono ?_); rintro e w1 ⟨v1, rfl, hr1, rfl, -⟩)
      go_ret
      exact ⟨_, rfl, by rw [← hfin.out]; exact hr1, hnx⟩
    · have k1 : i < la := by omega
      have k1' : (i : Int) < (la : Int) := by omega
      have HIN := Lib.hid (TO.inner hI.out)
      have PSi := Lib.hid (PS.out i)
      have PBi := Lib.hid (PB.out i)
      have PDi := Lib.hid (PD.out i)
      have PLi := Lib.hid (PL2.out i)
      obtain ⟨hx0, hx9⟩ := PX.out i
      have hcA0 : ∃ g o, A = some ⟨g, o, none⟩ ∧ w.cell? ⟨g, o + i, none⟩ = some (.int .i64 ((dg 10 a)[i]?.getD 0)) := by
        obtain ⟨g, o, hA, hy⟩ := HXA.out (by omega)
        exact ⟨g, o, hA, hy i k1⟩
      obtain ⟨b1, o1, rfl, hcA⟩ := hcA0
      have HCA := Lib.hid hcA
      clear hcA hend hlen
      generalize (dg 10 a)[i]?.getD 0 = x at *
      go_wp2
      go_loopg [7, 8, 9] (la + lb + 1) (fun kx s7 s8 s9 wx => ∃ (k : Nat) (c : Int) (o : List Int), s7 = .int .i64 c ∧ s8 = .int .i64 k ∧ k ≤ la + lb ∧ la + lb + 1 ≤ kx + k ∧ 0 ≤ c ∧ c ≤ 9 ∧ Hid (TN a b i k c o) ∧ Hid (Arr wx w.heap.size o) ∧ Below w.heap.size w wx)
      case atStart => exact ⟨0, 0, out, rfl, rfl, by omega, by omega, by omega, by omega, HIN, harr, hnx⟩
      case round =>
        obtain ⟨k, c, o, rfl, rfl, hkl, hkx2, hc0, hc9, hN, harx, hnx2⟩ := hrel
        have hlo := PLi.out k c o hN.out
        by_cases hend : ¬ k < lb ∧ c = 0
        · obtain ⟨h1, rfl⟩ := hend
          have h1' : ¬ (k : Int) < (lb : Int) := by omega
          have hnew := Lib.hid (PDi.out k o hN.out h1)
          clear hlo
          go_wp2
          go_roundg (la - (i + 1))
          case measure => omega
          case rel => exact ⟨i + 1, o, by go_num, by omega, by omega, hnew, harx, hnx2⟩
        · have hik : i + k < o.length := PBi.out k c o hN.out k1 (by omega)
          have hik2 : i + k < la + lb := by omega
          have hik3 : (i : Int) + (k : Int) < (la : Int) + (lb : Int) := by omega
          have hw2 : IntKind.i64.wrap ((i : Int) + (k : Int)) = (i : Int) + (k : Int) := IntWalk.i64_in _ (by omega)
          have hw3 : IntKind.i64.wrap ((k : Int) + 1) = (k : Int) + 1 := IntWalk.i64_in _ (by omega)
          have hcell := harx.out.cell hik
          have hfr := harx.out.frozen (i + k)
          have hset := Lib.hid (fun z => harx.out.set hik z)
          obtain ⟨hn0, hn9⟩ := dig_nth hN.out.2.1 (i + k)
          have HST := Lib.hid (fun n hn => PSi.out k c n o hN.out hn hik)
          obtain ⟨hy0, hy9⟩ := PY.out k
          have OYk := Lib.hid (OY.out k)
          generalize hoe : nth o (i + k) = d at *
          clear hoe hlo hik
          by_cases k2 : k < lb
          · have k2' : (k : Int) < (lb : Int) := by omega
            have hcB0 : ∃ g o, A' = some ⟨g, o, none⟩ ∧ wr.cell? ⟨g, o + k, none⟩ = some (.int .i64 ((dg 10 b)[k]?.getD 0)) := by
              obtain ⟨g, q, hA, hy⟩ := HXB.out (by omega)
              exact ⟨g, q, hA, (hnx2.cell (cell_lt (hy k k2))).trans (hy k k2)⟩
            obtain ⟨b2, o2, rfl, hcB⟩ := hcB0
            have hcA := (hnx2.cell (cell_lt HCA.out)).trans HCA.out
            generalize (dg 10 b)[k]?.getD 0 = y at *
            obtain ⟨hp0, hp9⟩ : 0 ≤ x * y ∧ x * y ≤ 81 := by
              refine ⟨Int.mul_nonneg hx0 hy0, ?_⟩
              have := Int.mul_le_mul hx9 hy9 hy0 (by omega : (0 : Int) ≤ 9)
              omega
            have hw4 : IntKind.i64.wrap (x * y) = x * y := IntWalk.i64_in _ (by omega)
            have hw5 : IntKind.i64.wrap (d + c + x * y) = d + c + x * y := IntWalk.i64_in _ (by omega)
            have hmixed : Tryz.prog.follows .mixedOrders = true := by kernel_rfl
            have HN := Lib.hid (HST.out (d + c + x * y) rfl)
            clear hend
            go_wp2
            go_region
            all_goals go_wp2
            go_roundg (la + lb + 1 - (k + 1))
            case measure => omega
            case rel => exact ⟨k + 1, (d + c + x * y) / 10, _, by go_num, by go_num, by omega, by omega, by omega, by omega, HN, Lib.hid (hset.out _), (hnx2.drew.setCell (p := ⟨w.heap.size, i + k, none⟩) (Nat.le_refl _) _)⟩
          · have k2' : ¬ (k : Int) < (lb : Int) := by omega
            have hcp : 0 < c := by omega
            have ey := OYk.out k2
            have HN := Lib.hid (HST.out (d + c) (by rw [ey, Int.mul_zero, Int.add_zero]))
            clear ey hend hy0 hy9
            go_wp2
            go_roundg (la + lb + 1 - (k + 1))
            case measure => omega
            case rel => exact ⟨k + 1, (d + c) / 10, _, by go_num, by go_num, by omega, by omega, by omega, by omega, HN, Lib.hid (hset.out _), (hnx2.setCell (p := ⟨w.heap.size, i + k, none⟩) (Nat.le_refl _) _)⟩

end Go.Proofs.YtffndcjmabjhiaaGreatDoor

namespace Go.Proofs.YtffndcjmabjhiaaGreatDoor
open Go.RowKit Num
open Go.Shelf

/-- 'append([]int{r}, xs...)': the literal lies in a new block. -/
theorem app_cons2 {W : World} {ops : Array Oper} {rest : List Oper} {o : Oper} {a : Act} {Q : Exit → Act → World → Prop} (hgd : o.guard = none) (s x : Operand)
    (ho : o.op = .call { callee := .builtin .append, args := #[s, x], argTypes := #[41, 41] }) (r : Int) (v : Value) (ys : List Int)
    (hs : a.eval s = .slice (some ⟨W.heap.size, 0, none⟩) 1 1) (hx : a.eval x = v) (hv : Rd W v ys) (hl : ys.length ≤ 900000)
    (h : ∀ v' w', Rd w' v' (r :: ys) → Below W.heap.size W w' → (∀ k, v'.ownBlock = some k → W.heap.size ≤ k) → wpList Tryz.prog ops Q rest (a.put o.dst v') w') :
    wpList Tryz.prog ops Q (o :: rest) a (W.alloc (.cells #[.int .i64 r] 3)) := by
  obtain ⟨i0, hi, hz0, hz1, hz2⟩ := info_parts Tryz.info3
  have hown : (W.alloc (.cells #[.int .i64 r] 3)).ownsRow W.heap.size 3 1 (.slice (some ⟨W.heap.size, 0, none⟩) 1 1) 1 [.int .i64 r] :=
    World.ownsRow_lit W #[.int .i64 r] 1 (Nat.le_refl _) (by unfold maxLen; omega) rfl
  have fin : ∀ v' w', w'.ownsRow W.heap.size 3 1 v' (r :: ys).length ((r :: ys).map (Value.int .i64)) → Below W.heap.size W w' → wpList Tryz.prog ops Q rest (a.put o.dst v') w' :=
    fun v' w' h1 h2 => h v' w' (Rd.own h1 (by simp; omega)) h2 (fun k hk => (h1.lt k hk).1)
  obtain ⟨A, c, rfl, hc, hm, hy⟩ := hv
  cases A with
  | none =>
    obtain rfl := hc.2 rfl
    have hn : ys = [] := by
      rcases Nat.eq_zero_or_pos ys.length with h0 | h0
      · exact List.eq_nil_of_length_eq_zero h0
      · obtain ⟨b, o, h1, _⟩ := hy h0; cases h1
    subst hn
    refine wpList_plain hgd fun K hK' => ?_
    have hrun := run_append_owned_none (P := Tryz.prog) (w := W.alloc (.cells #[.int .i64 r] 3)) W.heap.size 41 o.type 3 i0 1 Tryz.underlying41 hi _ 1 _ hown
    unfold Oper.wp
    simp [execOp, ho, resolve, invoke, builtin, hs, hx, hrun, Result.andThen]
    exact hK' _ _ (fin _ _ hown (below1 _ _))
  | some ad =>
    refine wpList_append_own _ hgd s x 41 ho W.heap.size 3 i0 (.int .i64 0) 1 8 Tryz.underlying41 hi hz0 hz1 hz2 rfl (by decide) _ 1 [.int .i64 r] hs hown ad ys.length c (ys.map (Value.int .i64)) hx (by simp) ?_ ?_ ?_ ?_ ?_ ?_
    · intro j u hj
      rw [List.getElem?_map] at hj
      cases hq : ys[j]? with
      | none => rw [hq] at hj; cases hj
      | some z =>
        rw [hq] at hj
        have hjl : j < ys.length := (List.getElem?_eq_some_iff.1 hq).1
        obtain ⟨b, o, h1, h2⟩ := hy (by omega)
        cases h1
        have h3 := cell_up (.cells #[.int .i64 r] 3) (h2 j hjl)
        rw [hq] at h3
        simp only [Option.map_some, Option.some.injEq] at hj
        subst hj
        rw [addr_add]
        simpa using h3
    · intro u hu
      obtain ⟨z, _, rfl⟩ := List.mem_map.1 hu
      rfl
    · unfold maxLen; omega
    · omega
    · simp
    · intro v' w' hown' hg _
      refine fin v' w' (by rw [List.length_cons, Nat.add_comm]; exact hown') ?_
      exact (below1 _ _).grown hg (by simp) (fun k hk => by cases hk; exact Nat.le_refl _)

/-! ### The plain law -/
/-- The number above the lowest j digits. -/
def top (a j : Nat) : Nat := (nv 10 ((dg 10 a).drop j)).toNat
theorem top_end {a j : Nat} (h : (dg 10 a).length ≤ j) : top a j = 0 := by
  unfold top
  rw [List.drop_of_length_le h]; rfl
theorem top_zero (a : Nat) : top a 0 = a := by
  unfold top
  rw [List.drop_zero, nv_dg (by omega)]; omega
theorem top_step {a j : Nat} (h : j < (dg 10 a).length) : (top a j : Int) = (dg 10 a)[j]?.getD 0 + 10 * top a (j + 1) := by
  have hd := (dig_dg (B := 10) (by omega) a)
  have h1 := nv_nonneg (hd.drop j)
  have h2 := nv_nonneg (hd.drop (j + 1))
  unfold top
  rw [List.drop_eq_getElem_cons h, nv] at h1 ⊢
  rw [List.getElem?_eq_getElem h, Option.getD_some]
  have : ((10 : Nat) : Int) = 10 := rfl
  omega
/-- Quotient and rest when the digits from j on are done. -/
def TQ (a n j : Nat) (qs : List Int) (r : Nat) : Prop := qs.length = (dg 10 a).length ∧ Dig 10 qs ∧ (∀ t, t < j → nth qs t = 0) ∧ nv 10 qs = ((10 : Nat) : Int) ^ j * (top a j / n : Nat) ∧ r = top a j % n
/-- Within a round: d times the divisor has been taken off. -/
def TR (a n j : Nat) (qs : List Int) (r d : Nat) : Prop := qs.length = (dg 10 a).length ∧ Dig 10 qs ∧ (∀ t, t < j → nth qs t = 0) ∧ nth qs j = d ∧ d ≤ 9 ∧
  nv 10 qs = ((10 : Nat) : Int) ^ (j + 1) * (top a (j + 1) / n : Nat) + ((10 : Nat) : Int) ^ j * d ∧ r + d * n = 10 * (top a (j + 1) % n) + ((dg 10 a)[j]?.getD 0).toNat
theorem TQ.start (a n : Nat) : TQ a n (dg 10 a).length (List.replicate (dg 10 a).length 0) 0 := by
  have hr : ∀ n, nv 10 (List.replicate n 0) = 0 := fun n => by
    induction n with
    | zero => rfl
    | succ n ih => rw [List.replicate_succ, nv, ih]; rfl
  refine ⟨List.length_replicate, fun y hy => ?_, fun t ht => ?_, ?_, ?_⟩
  · rw [List.eq_of_mem_replicate hy]; omega
  · unfold nth; rw [List.getElem?_replicate]; simp [ht]
  · rw [hr, top_end (Nat.le_refl _)]; simp
  · rw [top_end (Nat.le_refl _)]; simp
theorem TQ.round {a n j : Nat} {qs : List Int} {r : Nat} (h : TQ a n (j + 1) qs r) : TR a n j qs (10 * r + ((dg 10 a)[j]?.getD 0).toNat) 0 := by
  obtain ⟨h1, h2, h3, h4, h5⟩ := h
  exact ⟨h1, h2, fun t ht => h3 t (by omega), h3 j (by omega), by omega, by rw [h4]; simp, by rw [h5]; omega⟩
theorem TR.step {a n j : Nat} {qs : List Int} {r d : Nat} (h : TR a n j qs r d) (hj : j < (dg 10 a).length) (hn : n ≤ r) (hn0 : 0 < n) : d + 1 ≤ 9 ∧ TR a n j (qs.set j (d + 1 : Nat)) (r - n) (d + 1) := by
  obtain ⟨h1, h2, h3, h4, h5, h6, h7⟩ := h
  have hx := dig_at a j
  have hm := Nat.mod_lt (top a (j + 1)) hn0
  have hd : d + 1 ≤ 9 := by
    rcases Nat.lt_or_ge d 9 with k | k
    · omega
    · have e : d = 9 := by omega
      subst e
      omega
  refine ⟨hd, by rw [List.length_set, h1], dig_set h2 _ (by omega) (by omega), fun t ht => ?_, ?_, by omega, ?_, ?_⟩
  · unfold nth
    rw [List.getElem?_set_ne (by omega)]
    exact h3 t ht
  · unfold nth
    rw [List.getElem?_set_self (by omega)]; rfl
  · rw [nv_set _ _ _ (by omega), h6, h4, Int.add_assoc, ← Int.mul_add]
    congr 2
    omega
  · rw [Nat.add_mul, Nat.one_mul]
    omega
theorem TR.done {a n j : Nat} {qs : List Int} {r d : Nat} (h : TR a n j qs r d) (hj : j < (dg 10 a).length) (hn : r < n) : TQ a n j qs r := by
  obtain ⟨h1, h2, h3, h4, h5, h6, h7⟩ := h
  have hx := dig_at a j
  have ht : top a j = 10 * top a (j + 1) + ((dg 10 a)[j]?.getD 0).toNat := by have := top_step hj; omega
  have hdm := Nat.div_add_mod (top a (j + 1)) n
  have e : top a j = n * (10 * (top a (j + 1) / n) + d) + r := by
    rw [Nat.mul_add, ht]
    have : n * (10 * (top a (j + 1) / n)) = 10 * (n * (top a (j + 1) / n)) := Nat.mul_left_comm _ _ _
    rw [this, Nat.mul_comm n d]
    omega
  have hq : top a j / n = 10 * (top a (j + 1) / n) + d := by
    rw [e, Nat.mul_add_div (by omega), Nat.div_eq_of_lt hn]; omega
  have hr : top a j % n = r := by rw [e, Nat.mul_add_mod, Nat.mod_eq_of_lt hn]
  refine ⟨h1, h2, h3, ?_, hr.symm⟩
  rw [h6, hq, Int.pow_succ, Int.mul_assoc, ← Int.mul_add]
  congr 1
theorem TQ.done {a n : Nat} {qs : List Int} {r : Nat} (h : TQ a n 0 qs r) : dg 10 (nv 10 qs).toNat = dg 10 (a / n) ∧ r = a % n := by
  obtain ⟨h1, h2, h3, h4, h5⟩ := h
  rw [top_zero] at h4 h5
  refine ⟨?_, h5⟩
  rw [h4, Int.pow_zero, Int.one_mul, Int.toNat_natCast]

end Go.Proofs.YtffndcjmabjhiaaGreatDoor

namespace Go.Proofs.YtffndcjmabjhiaaGreatDoor
open Go.RowKit Num
open Go.Shelf

theorem Rd.other {W : World} {v : Value} {xs : List Int} (h : Rd W v xs) {B : Nat} (hne : ∀ k, v.ownBlock = some k → B < k) (o : Nat) (u : Value) : Rd (W.setCell ⟨B, o, none⟩ u) v xs := by
  obtain ⟨A, c, rfl, hc, hm, hx⟩ := h
  refine ⟨A, c, rfl, hc, hm, fun h0 => ?_⟩
  obtain ⟨b, p, rfl, hy⟩ := hx h0
  have hb := hne b rfl
  refine ⟨b, p, rfl, fun j hj => ?_⟩
  have h1 := hy j hj
  have h2 : (W.setCell ⟨B, o, none⟩ u).heap[b]? = W.heap[b]? := (Turn.setCell (X := [B]) W B o u (by simp)).block b (cell_lt h1) (by simp; omega)
  exact (World.cell?_of_block (w := W) h2).trans h1

/-- The call returns quotient and rest. -/
def RetQR10 (w : World) (q r : Nat) (e : Ending) (w' : World) : Prop := ∃ v u, e = .returned (.tuple #[v, u]) ∧ Rd w' v (dg 10 q) ∧ Rd w' u (dg 10 r) ∧ Below w.heap.size w w'
theorem nv_head10 {x : Int} {r : Nat} (h : 0 ≤ x) : (nv 10 (x :: dg 10 r)).toNat = 10 * r + x.toNat := by
  rw [nv, nv_dg (by omega)]
  have : ((10 : Nat) : Int) = 10 := rfl
  omega
theorem dig_head10 {x : Int} {r : Nat} (h0 : 0 ≤ x) (h1 : x ≤ 9) : Dig 10 (x :: dg 10 r) := by
  intro y hy
  rcases List.mem_cons.1 hy with rfl | h
  · omega
  · exact dig_dg (by omega) r y h
theorem dg10_len_le {m n : Nat} (h : m ≤ n) : (dg 10 m).length ≤ (dg 10 n).length := by
  rcases Nat.lt_or_ge (dg 10 n).length (dg 10 m).length with k | k
  · have := lt_of_len (B := 10) (by omega) k
    omega
  · exact k

set_option maxHeartbeats 4000000 in
set_option maxRecDepth 100000 in
theorem divided10_any (a n : Nat) (hn0 : 0 < n) (v u : Value) (w : World) (hv : Rd w v (dg 10 a)) (hu : Rd w u (dg 10 n)) (ha : (dg 10 a).length ≤ 2000) (hb : (dg 10 n).length ≤ 1000) :
    Calls Tryz.prog 290 #[v, u] w (RetQR10 w (a / n) (a % n)) := by
  have HU := Lib.hid hu
  obtain ⟨A, c1, rfl, _, _, hxa⟩ := hv
  have HXA := Lib.hid hxa
  clear hxa hu
  have P0 := Lib.hid (TQ.start a n)
  have PR := Lib.hid (fun (j : Nat) qs r (h : TQ a n (j + 1) qs r) => h.round)
  have PS := Lib.hid (fun (j : Nat) qs r d (h : TR a n j qs r d) hj hn => h.step hj hn hn0)
  have PD := Lib.hid (fun (j : Nat) qs r d (h : TR a n j qs r d) hj hn => h.done hj hn)
  have PE := Lib.hid (fun qs r (h : TQ a n 0 qs r) => h.done)
  have PL := Lib.hid (fun j qs r (h : TQ a n j qs r) => h.1)
  have PL2 := Lib.hid (fun j qs r d (h : TR a n j qs r d) => h.1)
  have PX := Lib.hid (fun i => dig_at a i)
  have PN := Lib.hid (fun (r : Nat) (h : r ≤ 10 * n) => (show (dg 10 r).length ≤ 2000 by
    have h1 : (dg 10 r).length ≤ (dg 10 n).length + 1 := dg_len (by omega) _ r (by
      have h2 := dg_len_lt (B := 10) (by omega) n
      rw [Nat.pow_succ]
      omega)
    omega))
  have OR := Lib.hid (fun r v w hv hu => rorder_any r n v u w hv hu)
  have MI := Lib.hid (fun r (h : n ≤ r) v w hv hu hl => rminus_own r n h v u w hv hu hl)
  have hle0 : Hid (∀ j qs r, TQ a n j qs r → r < n) := Lib.hid (fun j qs r h => by rw [h.2.2.2.2]; exact Nat.mod_lt _ hn0)
  have hle1 : Hid (∀ j qs r d, TR a n j qs r d → r ≤ 10 * n) := Lib.hid (fun j qs r d h => by
    have h1 := h.2.2.2.2.2.2
    have h2 := Nat.mod_lt (top a (j + 1)) hn0
    have h3 := dig_at a j
    omega)
  have hcmp : Hid (∀ r, n ≤ r → (0 : Int) ≤ Lib.compareInt r n) := Lib.hid (fun r h => by unfold Lib.compareInt; rw [if_neg (by omega)]; split <;> omega)
  have hcmp2 : Hid (∀ r, ¬ n ≤ r → Lib.compareInt r n = -1) := Lib.hid (fun r h => cmp_lt (by omega))
  clear hb hn0
  generalize hla : (dg 10 a).length = la at *
  clear hla
  go_enter Tryz.func290, Tryz.ntmps290
  go_wp2_with (at_make; refine make_int2 rfl _ _ rfl la (la : Int) rfl rfl rfl (by omega) ?_; intro w2 hown hb2)
  rw [List.length_replicate] at hown
  have harr0 := Lib.hid (Arr.of_own hown)
  clear hown
  go_loopg [7, 8] la (fun kx s7 s8 wr => ∃ (i : Int) (qs : List Int) (r : Nat), s8 = .int .i64 i ∧ -1 ≤ i ∧ i < (la : Int) ∧ i + 1 ≤ kx ∧ Hid (TQ a n (i + 1).toNat qs r) ∧ Hid (Rd wr s7 (dg 10 r)) ∧ Hid (∀ k, s7.ownBlock = some k → w.heap.size < k) ∧ Hid (Arr wr w.heap.size qs) ∧ Below w.heap.size w wr)
  case atStart =>
    refine ⟨_, _, 0, rfl, by omega, by omega, by omega, Lib.hid ?_, Lib.hid ?_, Lib.hid ?_, harr0, hb2⟩
    · have e : ((la : Int) - 1 + 1).toNat = la := by omega
      rw [e]; exact P0.out
    · rw [dg_zero]; exact Rd.nil _
    · intro k hk; cases hk
  case round =>
    obtain ⟨i, qs, r, rfl, hi0, hi1, hkx, hQ, hrd, hob, harr, hnx⟩ := hrel
    have hlen := PL.out _ qs r hQ.out
    by_cases hg : 0 ≤ i
    · obtain ⟨j, rfl⟩ : ∃ j : Nat, i = j := ⟨i.toNat, by omega⟩
      have hj : j < la := by omega
      have hw1 : IntKind.i64.wrap ((j : Int) - 1) = (j : Int) - 1 := IntWalk.i64_in _ (by omega)
      have e1 : ((j : Int) + 1).toNat = j + 1 := by omega
      rw [e1] at hQ
      have HR0 := Lib.hid (PR.out j qs r hQ.out)
      have PSj := Lib.hid (PS.out j)
      have PDj := Lib.hid (PD.out j)
      have PLj := Lib.hid (PL2.out j)
      have hle1j := Lib.hid (hle1.out j)
      have hlr := PN.out r (by have := hle0.out _ _ _ hQ.out; omega)
      have hcA0 : ∃ g o, A = some ⟨g, o, none⟩ ∧ wr.cell? ⟨g, o + j, none⟩ = some (.int .i64 ((dg 10 a)[j]?.getD 0)) := by
        obtain ⟨g, o, hA, hy⟩ := HXA.out (by omega)
        exact ⟨g, o, hA, (hnx.cell (cell_lt (hy j hj))).trans (hy j hj)⟩
      obtain ⟨b1, o1, rfl, hcA⟩ := hcA0
      obtain ⟨hx0, hx9⟩ := PX.out j
      generalize (dg 10 a)[j]?.getD 0 = x at *
      have hHD := Lib.hid (dig_head10 (r := r) hx0 hx9)
      have hNV := Lib.hid (nv_head10 (r := r) hx0)
      have HLR : Hid ((dg 10 r).length ≤ 900000) := Lib.hid (by omega)
      clear e1 hlen hlr hQ
      go_wp2_with (first
        | (at_builtin; refine app_cons2 rfl (.tmp 23) (.tmp 24) rfl x _ (dg 10 r) rfl rfl hrd.out HLR.out ?_; intro v2 w3 hr2 hb3 hob2)
        | (go_at_call 321; (with_reducible refine (trim_own _ _ _ hr2 hHD.out).mono ?_); rintro e w4 ⟨v3, rfl, hr3, rfl, hob3⟩))
      rw [hNV.out] at hr3
      go_loopg [7] 10 (fun kx s7 wx => ∃ (r d : Nat) (o : List Int), 10 ≤ kx + d ∧ d ≤ 9 ∧ Hid (TR a n j o r d) ∧ Hid (Rd wx s7 (dg 10 r)) ∧ Hid (∀ k, s7.ownBlock = some k → w.heap.size < k) ∧ Hid (Arr wx w.heap.size o) ∧ Below w.heap.size w wx)
      case atStart => exact ⟨_, 0, qs, by omega, by omega, HR0, Lib.hid hr3, Lib.hid (fun k hk => by have h1 := hob2 k (hob3 ▸ hk); have := harr.out.lt; omega), Lib.hid (harr.out.below hb3), below_up hnx hb3⟩
      case round =>
        obtain ⟨r2, d, o, hkx2, hd9, hT, hrd2, hob4, harx, hnx2⟩ := hrel
        have hlo := PLj.out o r2 d hT.out
        have hlr2 := PN.out r2 (hle1j.out o r2 d hT.out)
        by_cases hge : n ≤ r2
        · have hc := hcmp.out r2 hge
          have O := Lib.hid (OR.out r2 _ wr hrd2.out (HU.out.below hnx2))
          have M := Lib.hid (fun w1 (hb : Below wr.heap.size wr w1) => MI.out r2 hge _ w1 (hrd2.out.below hb) (HU.out.below (below_up hnx2 hb)) hlr2)
          have ST := Lib.hid (PSj.out o r2 d hT.out hj hge)
          have hjo : j < o.length := by omega
          have hset := Lib.hid (fun w1 (hb : Below wr.heap.size wr w1) z => (harx.out.below hb).set hjo z)
          have hcell := harx.out.cell hjo
          rw [hT.out.2.2.2.1] at hcell
          have hfr := harx.out.frozen j
          have HCELL := Lib.hid hcell
          have HFR := Lib.hid hfr
          have hltq := Lib.hid harx.out.lt
          have hw2 : IntKind.i64.wrap ((d : Int) + 1) = (d : Int) + 1 := IntWalk.i64_in _ (by omega)
          generalize Lib.compareInt r2 n = c at *
          clear hlo hlr2 hcell hfr hge hjo
          go_wp2_with (first
            | (go_at_call 288; (with_reducible refine O.out.mono ?_); rintro e w5 ⟨rfl, hb5⟩)
            | (go_at_call 293; (with_reducible refine (M.out _ hb5).mono ?_); rintro e w6 ⟨v6, rfl, hr6, hb6, hob6⟩; have hcell6 := ((below_up hb5 hb6).cell (cell_lt HCELL.out)).trans HCELL.out; have hfr6 := ((below_up hb5 hb6).frozen (cell_lt HCELL.out)).trans HFR.out))
          go_roundg (10 - (d + 1))
          case measure => omega
          case rel => exact ⟨r2 - n, d + 1, _, by omega, ST.out.1, Lib.hid ST.out.2, Lib.hid (hr6.other (fun k hk => by have h1 := hob6 k hk; have h2 := hltq.out; have h3 := hb5.size; omega) _ _), Lib.hid (fun k hk => by have h1 := hob6 k hk; have h2 := hltq.out; have h3 := hb5.size; omega), Lib.hid (hset.out _ (below_up hb5 hb6) _), ((below_up hnx2 (below_up hb5 hb6)).setCell (p := ⟨w.heap.size, j, none⟩) (Nat.le_refl _) _)⟩
        · have hc : ¬ (0 : Int) ≤ Lib.compareInt r2 n := by rw [hcmp2.out r2 hge]; omega
          have O := Lib.hid (OR.out r2 _ wr hrd2.out (HU.out.below hnx2))
          have DN : Hid (TQ a n ((j : Int) - 1 + 1).toNat o r2) := Lib.hid (by
            rw [show ((j : Int) - 1 + 1).toNat = j by omega]
            exact PDj.out o r2 d hT.out hj (by omega))
          generalize Lib.compareInt r2 n = c at *
          clear hlo hlr2 hge
          go_wp2_with (go_at_call 288; (with_reducible refine O.out.mono ?_); rintro e w5 ⟨rfl, hb5⟩)
          go_roundg j
          case measure => omega
          case rel => exact ⟨_, o, r2, by go_num, by omega, by omega, by omega, DN, Lib.hid (hrd2.out.below hb5), hob4, Lib.hid (harx.out.below hb5), below_up hnx2 hb5⟩
    · obtain rfl : i = -1 := by omega
      have HQ := Lib.hid (PE.out qs r hQ.out)
      have HR := Lib.hid (harr.out.rd hlen (by omega))
      have TM := Lib.hid (fun HR => trim_own (.slice (some ⟨w.heap.size, 0, none⟩) la la) qs wr HR hQ.out.2.1)
      clear hlen
      go_wp2_with (go_at_call 321; (with_reducible refine (TM.out HR.out).mono ?_); rintro e w1 ⟨v1, rfl, hr1, rfl, -⟩)
      go_ret2
      exact ⟨_, _, rfl, by rw [← HQ.out.1]; exact hr1, by rw [← HQ.out.2]; exact hrd.out, hnx⟩

end Go.Proofs.YtffndcjmabjhiaaGreatDoor

namespace Go.Proofs.YtffndcjmabjhiaaGreatDoor
open Go.RowKit Num
open Go.Shelf

set_option maxHeartbeats 2000000 in
theorem rmul_any (a b : ByteArray) (has : a.size ≤ 9223372036854775807) (hbs : b.size ≤ 9223372036854775807) (w : World) :
    Calls Tryz.prog 269 #[.string a, .string b] w (RetP w (op2 (fun x y => outI (x * y)) a b)) := by
  rcases cases_two a b with ⟨x, y, ha, hb⟩ | ha | ⟨x, ha, hb⟩
  · rw [op2_ok ha hb]
    have V1 := Lib.hid (fun w => rvalid_some ha w)
    have V2 := Lib.hid (fun w => rvalid_some hb w)
    have D1 := Lib.hid (fun w => digits_any (s := a) ha w)
    have D2 := Lib.hid (fun w => digits_any (s := b) hb w)
    have T := Lib.hid (fun v u w hv hu => rtimes_any x.natAbs y.natAbs v u w hv hu (by have := is_len ha; omega) (by have := is_len hb; omega))
    have CK := Lib.hid (fun v w hv => checked_any (decide (x < 0) != decide (y < 0)) (x.natAbs * y.natAbs) v w hv)
    rw [sgn_mul] at CK
    clear ha hb has hbs
    generalize decide (x < 0) = n1 at *
    generalize decide (y < 0) = n2 at *
    rw [show (n1 != n2) = (!(n1 == n2)) from rfl] at CK
    go_enter Tryz.func269, Tryz.ntmps269
    go_wp2_with (first
      | (go_at_call 223; (with_reducible refine (V1.out _).mono ?_); rintro e w1 ⟨rfl, hb1⟩)
      | (go_at_call 223; (with_reducible refine (V2.out _).mono ?_); rintro e w2 ⟨rfl, hb2⟩)
      | (go_at_call 287; (with_reducible refine (D1.out _).mono ?_); rintro e w3 ⟨v3, rfl, hr3, hb3⟩)
      | (go_at_call 287; (with_reducible refine (D2.out _).mono ?_); rintro e w4 ⟨v4, rfl, hr4, hb4⟩)
      | (go_at_call 313; (with_reducible refine (T.out v3 v4 _ (hr3.below hb4) hr4).mono ?_); rintro e w5 ⟨v5, rfl, hr5, hb5⟩)
      | (go_at_call 291; (with_reducible refine (CK.out v5 _ hr5).mono ?_); rintro e w6 ⟨rfl, hb6⟩))
    go_ret2
    exact ⟨rfl, below_up hb1 (below_up hb2 (below_up hb3 (below_up hb4 (below_up hb5 hb6))))⟩
  · rw [op2_no (.inl ha)]
    have V1 := Lib.hid (fun w => rvalid_none has ha w)
    clear ha has hbs
    go_enter Tryz.func269, Tryz.ntmps269
    go_wp2_with (go_at_call 223; (with_reducible refine (V1.out _).mono ?_); rintro e w1 ⟨rfl, hb1⟩)
    go_ret2
    exact ⟨rfl, hb1⟩
  · rw [op2_no (.inr hb)]
    have V1 := Lib.hid (fun w => rvalid_some ha w)
    have V2 := Lib.hid (fun w => rvalid_none hbs hb w)
    clear ha hb has hbs
    go_enter Tryz.func269, Tryz.ntmps269
    go_wp2_with (first
      | (go_at_call 223; (with_reducible refine (V1.out _).mono ?_); rintro e w1 ⟨rfl, hb1⟩)
      | (go_at_call 223; (with_reducible refine (V2.out _).mono ?_); rintro e w2 ⟨rfl, hb2⟩))
    go_ret2
    exact ⟨rfl, below_up hb1 hb2⟩

theorem lit10_one (w : World) : Rd (w.alloc (.cells #[.int .i64 1] 3)) (.slice (some ⟨w.heap.size, 0, none⟩) 1 1) (dg 10 1) := by
  have e : dg 10 1 = [(1 : Int)] := by rw [dg_pos (by omega) (by omega), Nat.div_eq_of_lt (by omega), Nat.mod_eq_of_lt (by omega), dg_zero]; rfl
  rw [e]
  refine ⟨some ⟨w.heap.size, 0, none⟩, 1, rfl, ⟨Nat.le_refl _, fun e => by cases e⟩, by simp, fun _ => ⟨_, 0, rfl, fun j hj => ?_⟩⟩
  have : j = 0 := by simpa using hj
  subst this
  exact cell_new1 _ _ _
theorem len10_pos {n : Nat} (h : 0 < n) : (0 : Int) < ((dg 10 n).length : Int) := by
  have : dg 10 n ≠ [] := fun e => by rw [dg_eq_nil (by omega)] at e; omega
  have := List.length_pos_iff.2 this
  omega
theorem len10_zero {n : Nat} (h : ¬ 0 < n) : ¬ (0 : Int) < ((dg 10 n).length : Int) := by
  obtain rfl : n = 0 := by omega
  rw [dg_zero]; simp

set_option maxHeartbeats 4000000 in
theorem rdiv_any (a b : ByteArray) (has : a.size ≤ 9223372036854775807) (hbs : b.size ≤ 9223372036854775807) (w : World) :
    Calls Tryz.prog 227 #[.string a, .string b] w (RetT w (divI a b)) := by
  rcases cases_two a b with ⟨x, y, ha, hb⟩ | ha | ⟨x, ha, hb⟩
  · have V1 := Lib.hid (fun w => rvalid_some ha w)
    have V2 := Lib.hid (fun w => rvalid_some hb w)
    by_cases hy : y = 0
    · subst hy
      have e : divI a b = (⟨#[]⟩, ⟨#[]⟩, 30) := by unfold divI; rw [ha, hb]; simp
      rw [e]
      obtain rfl : b = ⟨#[48]⟩ := Is.uniq hb lit_0
      clear ha hb has hbs e
      go_enter Tryz.func227, Tryz.ntmps227
      go_wp2_with (first
        | (go_at_call 223; (with_reducible refine (V1.out _).mono ?_); rintro e w1 ⟨rfl, hb1⟩)
        | (go_at_call 223; (with_reducible refine (V2.out _).mono ?_); rintro e w2 ⟨rfl, hb2⟩))
      go_ret3
      exact ⟨rfl, below_up hb1 hb2⟩
    · have hb0 : (b.toList == [48]) = false := Is.differ0 hb hy
      have hY : 0 < y.natAbs := by omega
      have e : divI a b = (tx (x / y), tx (x % y), 0) := by unfold divI; rw [ha, hb]; simp only; rw [if_neg hy]
      rw [e]
      have D1 := Lib.hid (fun w => digits_any (s := a) ha w)
      have D2 := Lib.hid (fun w => digits_any (s := b) hb w)
      have DV := Lib.hid (fun v u w hv hu => divided10_any x.natAbs y.natAbs hY v u w hv hu (by have := is_len ha; omega) (by have := is_len hb; omega))
      have hfact := div_fact x y hy
      have hqs : (x / y).natAbs < 10 ^ 200 := Nat.lt_of_le_of_lt (Int.natAbs_ediv_le_natAbs _ _) (rd_small ha)
      have hql := dg10_len_le (Nat.div_le_self x.natAbs y.natAbs)
      have hla := is_len ha
      have hlb := is_len hb
      have hrm := Nat.mod_lt x.natAbs hY
      have hrs := rd_small hb
      have hob := outI_ok hqs
      by_cases hc : x < 0 ∧ 0 < x.natAbs % y.natAbs
      · obtain ⟨f1, f2⟩ := hfact.1 hc
        have hlen := len10_pos hc.2
        rw [decide_eq_true hc.1] at f1 D1
        have PL := Lib.hid (fun v u w hv hu => rplus_any (x.natAbs / y.natAbs) 1 v u w hv hu (by omega) (by have : (dg 10 1).length ≤ 1 := dg_len (by omega) 1 1 (by omega); omega))
        have MI := Lib.hid (fun v u w hv hu => rminus_any y.natAbs (x.natAbs % y.natAbs) (by omega) v u w hv hu (by omega))
        have CK := Lib.hid (fun v w hv => checked_any (true != decide (y < 0)) (x.natAbs / y.natAbs + 1) v w hv)
        rw [f1, hob] at CK
        have TT := Lib.hid (fun v w hv => rtext_any false (y.natAbs - x.natAbs % y.natAbs) v w hv)
        rw [f2] at TT
        clear ha hb has hbs e hfact hqs hql hla hlb hrs hob hc f1 f2 hy
        generalize decide (y < 0) = n2 at *
        rw [show (true != n2) = !n2 by cases n2 <;> rfl] at CK
        generalize x.natAbs / y.natAbs = q at *
        generalize x.natAbs % y.natAbs = r at *
        go_enter Tryz.func227, Tryz.ntmps227
        go_wp2_with (first
          | (go_at_call 223; (with_reducible refine (V1.out _).mono ?_); rintro e w1 ⟨rfl, hb1⟩)
          | (go_at_call 223; (with_reducible refine (V2.out _).mono ?_); rintro e w2 ⟨rfl, hb2⟩)
          | (go_at_call 287; (with_reducible refine (D1.out _).mono ?_); rintro e w3 ⟨v3, rfl, hr3, hb3⟩)
          | (go_at_call 287; (with_reducible refine (D2.out _).mono ?_); rintro e w4 ⟨v4, rfl, hr4, hb4⟩)
          | (go_at_call 290; (with_reducible refine (DV.out v3 v4 _ (hr3.below hb4) hr4).mono ?_); rintro e w5 ⟨v5, u5, rfl, hr5, hs5, hb5⟩; obtain ⟨A5, c5, rfl, -⟩ := id hs5)
          | (go_at_call 292; (with_reducible refine (PL.out v5 _ _ (hr5.below (below1 _ _)) (lit10_one _)).mono ?_); rintro e w6 ⟨v6, rfl, hr6, hb6⟩; have hb56 := below_up (below1 w5 _) hb6)
          | (go_at_call 293; (with_reducible refine (MI.out v4 _ _ (hr4.below (below_up hb5 hb56)) (hs5.below hb56)).mono ?_); rintro e w7 ⟨v7, rfl, hr7, hb7⟩)
          | (go_at_call 291; (with_reducible refine (CK.out v6 _ (hr6.below hb7)).mono ?_); rintro e w8 ⟨rfl, hb8⟩)
          | (go_at_call 228; (with_reducible refine (TT.out v7 _ (hr7.below hb8)).mono ?_); rintro e w9 ⟨rfl, hb9⟩))
        go_ret3
        exact ⟨rfl, below_up hb1 (below_up hb2 (below_up hb3 (below_up hb4 (below_up hb5 (below_up hb56 (below_up hb7 (below_up hb8 hb9)))))))⟩
      · obtain ⟨f1, f2⟩ := hfact.2 hc
        have hlen : ¬ x < 0 ∨ (x < 0 ∧ ¬ (0 : Int) < ((dg 10 (x.natAbs % y.natAbs)).length : Int)) := by
          by_cases k : x < 0
          · exact .inr ⟨k, len10_zero (fun q => hc ⟨k, q⟩)⟩
          · exact .inl k
        have CK := Lib.hid (fun v w hv => checked_any (decide (x < 0) != decide (y < 0)) (x.natAbs / y.natAbs) v w hv)
        rw [f1, hob] at CK
        have TT := Lib.hid (fun v w hv => rtext_any false (x.natAbs % y.natAbs) v w hv)
        rw [f2] at TT
        clear ha hb has hbs e hfact hqs hql hla hlb hrs hob hc f1 f2 hy
        rcases hlen with hlen | ⟨hxn, hlen⟩
        · rw [decide_eq_false hlen] at D1 CK
          clear hlen
          generalize decide (y < 0) = n2 at *
          rw [show (false != n2) = n2 by cases n2 <;> rfl] at CK
          generalize x.natAbs / y.natAbs = q at *
          generalize x.natAbs % y.natAbs = r at *
          go_enter Tryz.func227, Tryz.ntmps227
          go_wp2_with (first
            | (go_at_call 223; (with_reducible refine (V1.out _).mono ?_); rintro e w1 ⟨rfl, hb1⟩)
            | (go_at_call 223; (with_reducible refine (V2.out _).mono ?_); rintro e w2 ⟨rfl, hb2⟩)
            | (go_at_call 287; (with_reducible refine (D1.out _).mono ?_); rintro e w3 ⟨v3, rfl, hr3, hb3⟩)
            | (go_at_call 287; (with_reducible refine (D2.out _).mono ?_); rintro e w4 ⟨v4, rfl, hr4, hb4⟩)
            | (go_at_call 290; (with_reducible refine (DV.out v3 v4 _ (hr3.below hb4) hr4).mono ?_); rintro e w5 ⟨v5, u5, rfl, hr5, hs5, hb5⟩; obtain ⟨A5, c5, rfl, -⟩ := id hs5)
            | (go_at_call 291; (with_reducible refine (CK.out v5 _ hr5).mono ?_); rintro e w8 ⟨rfl, hb8⟩)
            | (go_at_call 228; (with_reducible refine (TT.out _ _ (hs5.below hb8)).mono ?_); rintro e w9 ⟨rfl, hb9⟩))
          go_ret3
          exact ⟨rfl, below_up hb1 (below_up hb2 (below_up hb3 (below_up hb4 (below_up hb5 (below_up hb8 hb9)))))⟩
        · rw [decide_eq_true hxn] at D1 CK
          clear hxn
          generalize decide (y < 0) = n2 at *
          rw [show (true != n2) = !n2 by cases n2 <;> rfl] at CK
          generalize x.natAbs / y.natAbs = q at *
          generalize x.natAbs % y.natAbs = r at *
          go_enter Tryz.func227, Tryz.ntmps227
          go_wp2_with (first
            | (go_at_call 223; (with_reducible refine (V1.out _).mono ?_); rintro e w1 ⟨rfl, hb1⟩)
            | (go_at_call 223; (with_reducible refine (V2.out _).mono ?_); rintro e w2 ⟨rfl, hb2⟩)
            | (go_at_call 287; (with_reducible refine (D1.out _).mono ?_); rintro e w3 ⟨v3, rfl, hr3, hb3⟩)
            | (go_at_call 287; (with_reducible refine (D2.out _).mono ?_); rintro e w4 ⟨v4, rfl, hr4, hb4⟩)
            | (go_at_call 290; (with_reducible refine (DV.out v3 v4 _ (hr3.below hb4) hr4).mono ?_); rintro e w5 ⟨v5, u5, rfl, hr5, hs5, hb5⟩; obtain ⟨A5, c5, rfl, -⟩ := id hs5)
            | (go_at_call 291; (with_reducible refine (CK.out v5 _ hr5).mono ?_); rintro e w8 ⟨rfl, hb8⟩)
            | (go_at_call 228; (with_reducible refine (TT.out _ _ (hs5.below hb8)).mono ?_); rintro e w9 ⟨rfl, hb9⟩))
          go_ret3
          exact ⟨rfl, below_up hb1 (below_up hb2 (below_up hb3 (below_up hb4 (below_up hb5 (below_up hb8 hb9)))))⟩
  · rw [show divI a b = (⟨#[]⟩, ⟨#[]⟩, 30) by unfold divI; rw [ha]]
    have V1 := Lib.hid (fun w => rvalid_none has ha w)
    clear ha has hbs
    go_enter Tryz.func227, Tryz.ntmps227
    go_wp2_with (go_at_call 223; (with_reducible refine (V1.out _).mono ?_); rintro e w1 ⟨rfl, hb1⟩)
    go_ret3
    exact ⟨rfl, hb1⟩
  · rw [show divI a b = (⟨#[]⟩, ⟨#[]⟩, 30) by unfold divI; rw [ha, hb]]
    have V1 := Lib.hid (fun w => rvalid_some ha w)
    have V2 := Lib.hid (fun w => rvalid_none hbs hb w)
    clear ha hb has hbs
    go_enter Tryz.func227, Tryz.ntmps227
    go_wp2_with (first
      | (go_at_call 223; (with_reducible refine (V1.out _).mono ?_); rintro e w1 ⟨rfl, hb1⟩)
      | (go_at_call 223; (with_reducible refine (V2.out _).mono ?_); rintro e w2 ⟨rfl, hb2⟩))
    go_ret3
    exact ⟨rfl, below_up hb1 hb2⟩

set_option maxHeartbeats 4000000 in
set_option maxRecDepth 100000 in
theorem rgcd_any (a b : ByteArray) (has : a.size ≤ 9223372036854775807) (hbs : b.size ≤ 9223372036854775807) (w : World) :
    Calls Tryz.prog 226 #[.string a, .string b] w (RetP w (op2 (fun x y => outI (Int.gcd x y : Nat)) a b)) := by
  rcases cases_two a b with ⟨x, y, ha, hb⟩ | ha | ⟨x, ha, hb⟩
  · rw [op2_ok ha hb]
    have V1 := Lib.hid (fun w => rvalid_some ha w)
    have V2 := Lib.hid (fun w => rvalid_some hb w)
    have D1 := Lib.hid (fun w => digits_any (s := a) ha w)
    have D2 := Lib.hid (fun w => digits_any (s := b) hb w)
    have hxs := Lib.hid (rd_small ha)
    have hys := Lib.hid (rd_small hb)
    have hG : Hid (Nat.gcd x.natAbs y.natAbs = Int.gcd x y) := Lib.hid rfl
    clear ha hb has hbs
    generalize Int.gcd x y = G at *
    go_enter Tryz.func226, Tryz.ntmps226
    go_wp2_with (first
      | (go_at_call 223; (with_reducible refine (V1.out _).mono ?_); rintro e w1 ⟨rfl, hb1⟩)
      | (go_at_call 223; (with_reducible refine (V2.out _).mono ?_); rintro e w2 ⟨rfl, hb2⟩)
      | (go_at_call 287; (with_reducible refine (D1.out _).mono ?_); rintro e w3 ⟨v3, rfl, hr3, hb3⟩)
      | (go_at_call 287; (with_reducible refine (D2.out _).mono ?_); rintro e w4 ⟨v4, rfl, hr4, hb4⟩))
    obtain ⟨A4, c4, rfl, -⟩ := id hr4
    go_loopg [7, 9, 10, 11] y.natAbs (fun kx s7 s9 s10 s11 wr => ∃ (m n : Nat) (A : Option Addr) (c : Nat), s9 = .slice A (dg 10 n).length c ∧ n ≤ kx ∧ Hid (Nat.gcd m n = G) ∧ Hid (m < 10 ^ 200) ∧ Hid (n < 10 ^ 200) ∧ Hid (Rd wr s7 (dg 10 m)) ∧ Hid (Rd wr s9 (dg 10 n)) ∧ Below w.heap.size w wr)
    case atStart => exact ⟨x.natAbs, y.natAbs, A4, c4, rfl, Nat.le_refl _, hG, hxs, hys, Lib.hid (hr3.below hb4), Lib.hid hr4, below_up hb1 (below_up hb2 (below_up hb3 hb4))⟩
    case round =>
      obtain ⟨m, n, A, c, rfl, hk, hg, hms, hns, hrm, hrn, hnx⟩ := hrel
      by_cases hn : 0 < n
      · have hlen := len10_pos hn
        have DV := Lib.hid (divided10_any m n hn _ _ wr hrm.out hrn.out (by have := dg_len (B := 10) (by omega) 200 m hms.out; omega) (by have := dg_len (B := 10) (by omega) 200 n hns.out; omega))
        have hlt := Nat.mod_lt m hn
        have hg2 : Hid (Nat.gcd n (m % n) = G) := Lib.hid (by rw [← hg.out, Nat.gcd_comm m n, Nat.gcd_rec n m, Nat.gcd_comm])
        have hs2 : Hid (m % n < 10 ^ 200) := Lib.hid (Nat.lt_trans hlt hns.out)
        generalize m % n = r at *
        generalize m / n = q at *
        go_wp2_with (go_at_call 290; (with_reducible refine DV.out.mono ?_); rintro e w5 ⟨v5, u5, rfl, hr5, hs5, hb5⟩; obtain ⟨A5, c5, rfl, -⟩ := id hs5)
        go_roundg r
        case measure => omega
        case rel => exact ⟨n, r, A5, c5, rfl, Nat.le_refl _, hg2, hns, hs2, Lib.hid (hrn.out.below hb5), Lib.hid hs5, below_up hnx hb5⟩
      · have hlen := len10_zero hn
        obtain rfl : n = 0 := by omega
        have CK := Lib.hid (checked_any false m _ wr hrm.out)
        have e : Hid (sgn false m = (G : Int)) := Lib.hid (by rw [← hg.out, Nat.gcd_zero_right]; unfold sgn; simp)
        clear hn
        go_wp2_with (go_at_call 291; (with_reducible refine CK.out.mono ?_); rintro e w6 ⟨rfl, hb6⟩)
        go_ret2
        exact ⟨by rw [← e.out]; rfl, below_up hnx hb6⟩
  · rw [op2_no (.inl ha)]
    have V1 := Lib.hid (fun w => rvalid_none has ha w)
    clear ha has hbs
    go_enter Tryz.func226, Tryz.ntmps226
    go_wp2_with (go_at_call 223; (with_reducible refine (V1.out _).mono ?_); rintro e w1 ⟨rfl, hb1⟩)
    go_ret2
    exact ⟨rfl, hb1⟩
  · rw [op2_no (.inr hb)]
    have V1 := Lib.hid (fun w => rvalid_some ha w)
    have V2 := Lib.hid (fun w => rvalid_none hbs hb w)
    clear ha hb has hbs
    go_enter Tryz.func226, Tryz.ntmps226
    go_wp2_with (first
      | (go_at_call 223; (with_reducible refine (V1.out _).mono ?_); rintro e w1 ⟨rfl, hb1⟩)
      | (go_at_call 223; (with_reducible refine (V2.out _).mono ?_); rintro e w2 ⟨rfl, hb2⟩))
    go_ret2
    exact ⟨rfl, below_up hb1 hb2⟩

end Go.Proofs.YtffndcjmabjhiaaGreatDoor
