/- The walk of the reference implementation's 'plus'. Conditions: sizes. The walk of the reference implementation's 'minus'. Conditions: sizes; the first number is not less. The walks of the reference implementation's 'checked', 'sum', 'Add', 'Sub', 'Compare'. Conditions: sizes. The walks of the reference implementation's 'Sub' and 'Compare'. Conditions: sizes. -/
import Derived.Test.YtffndcjmabjhiaaGreatDoorK10
namespace Go.Proofs.YtffndcjmabjhiaaGreatDoor
open Go.RowKit Num
open Go.Shelf

theorem nv_take_succ (l : List Int) (i : Nat) : nv 10 (l.take (i + 1)) = nv 10 (l.take i) + ((10 : Nat) : Int) ^ i * (l[i]?.getD 0) := by
  by_cases h : i < l.length
  · rw [List.take_succ_eq_append_getElem h, nv_snoc, List.length_take, Nat.min_eq_left (by omega), List.getElem?_eq_getElem h]
    rfl
  · rw [List.take_of_length_le (by omega), List.take_of_length_le (by omega), List.getElem?_eq_none (by omega)]
    simp
theorem dig_at (a i : Nat) : 0 ≤ (dg 10 a)[i]?.getD 0 ∧ (dg 10 a)[i]?.getD 0 ≤ 9 := by
  by_cases h : i < (dg 10 a).length
  · rw [List.getElem?_eq_getElem h]
    have := dig_dg (B := 10) (by omega) a _ (List.getElem_mem h)
    simp only [Option.getD_some]
    omega
  · rw [List.getElem?_eq_none (by omega)]
    simp
theorem dig_out {a i : Nat} (h : ¬ i < (dg 10 a).length) : (dg 10 a)[i]?.getD 0 = 0 := by
  rw [List.getElem?_eq_none (by omega)]; rfl
theorem dig_top {a i : Nat} (h : i < (dg 10 a).length) (h1 : ¬ i + 1 < (dg 10 a).length) : (dg 10 a)[i]?.getD 0 ≠ 0 := by
  have h2 := dg_last (B := 10) (by omega) a
  rw [List.getLast?_eq_getElem?, show (dg 10 a).length - 1 = i by omega] at h2
  intro k
  apply h2
  rw [List.getElem?_eq_getElem h] at k ⊢
  simp only [Option.getD_some] at k
  rw [k]
theorem nv_all {a i : Nat} (h : ¬ i < (dg 10 a).length) : nv 10 ((dg 10 a).take i) = a := by
  rw [List.take_of_length_le (by omega), nv_dg (by omega)]

/-- What stands when i digits are done. -/
def PI (a b i : Nat) (c : Int) (ys : List Int) : Prop := ys.length = i ∧ Dig 10 ys ∧ nv 10 ys + ((10 : Nat) : Int) ^ i * c = nv 10 ((dg 10 a).take i) + nv 10 ((dg 10 b).take i) ∧
  (ys.getLast? = some 0 → i < (dg 10 a).length ∨ i < (dg 10 b).length ∨ 0 < c)
theorem PI.start (a b : Nat) : PI a b 0 0 [] := ⟨rfl, Dig.nil _, by simp [nv], fun h => by simp at h⟩
theorem PI.step {a b i : Nat} {c x y n : Int} {ys : List Int} (h : PI a b i c ys) (hc : 0 ≤ c) (hx : x = (dg 10 a)[i]?.getD 0) (hy : y = (dg 10 b)[i]?.getD 0) (hn : n = c + x + y)
    (hgo : i < (dg 10 a).length ∨ i < (dg 10 b).length ∨ 0 < c) : PI a b (i + 1) (n / 10) (ys ++ [n % 10]) := by
  obtain ⟨h1, h2, h3, h4⟩ := h
  have hx1 := dig_at a i
  have hy1 := dig_at b i
  rw [← hx] at hx1
  rw [← hy] at hy1
  have hm0 : 0 ≤ n % 10 := by omega
  have hm1 : n % 10 < 10 := by omega
  refine ⟨by rw [List.length_append, h1]; rfl, h2.append (Dig.one hm0 hm1), ?_, ?_⟩
  · rw [nv_snoc, nv_take_succ, nv_take_succ, ← hx, ← hy, h1, Int.pow_succ]
    have e : n = 10 * (n / 10) + n % 10 := by omega
    have e2 : (((10 : Nat) : Int)) ^ i * n = ((10 : Nat) : Int) ^ i * c + ((10 : Nat) : Int) ^ i * x + ((10 : Nat) : Int) ^ i * y := by rw [hn, Int.mul_add, Int.mul_add]
    have e3 : (((10 : Nat) : Int)) ^ i * n = ((10 : Nat) : Int) ^ i * ((10 : Nat) : Int) * (n / 10) + ((10 : Nat) : Int) ^ i * (n % 10) := by
      rw [Int.mul_assoc, ← Int.mul_add]
      congr 1
    omega
  · intro hl
    rw [List.getLast?_append] at hl
    simp only [List.getLast?_singleton, Option.some_or, Option.some.injEq] at hl
    by_cases k1 : i + 1 < (dg 10 a).length
    · exact .inl k1
    · by_cases k2 : i + 1 < (dg 10 b).length
      · exact .inr (.inl k2)
      · refine .inr (.inr ?_)
        rcases hgo with g | g | g
        · have := dig_top g k1
          rw [← hx] at this
          omega
        · have := dig_top g k2
          rw [← hy] at this
          omega
        · omega
theorem PI.done {a b i : Nat} {ys : List Int} (h : PI a b i 0 ys) (ha : ¬ i < (dg 10 a).length) (hb : ¬ i < (dg 10 b).length) : ys = dg 10 (a + b) := by
  obtain ⟨h1, h2, h3, h4⟩ := h
  rw [nv_all ha, nv_all hb] at h3
  have e := canon (B := 10) (by omega) ys h2 (fun k => by rcases h4 k with g | g | g <;> omega)
  rw [e]
  congr 1
  omega
theorem PI.bound {a b i : Nat} {c : Int} {ys : List Int} (h : PI a b i c ys) (hc : 0 < c) (m : Nat) (ha : (dg 10 a).length ≤ m) (hb : (dg 10 b).length ≤ m) : i ≤ m := by
  obtain ⟨h1, h2, h3, h4⟩ := h
  by_cases k : i ≤ m
  · exact k
  · have e : ∃ j, i = j + 1 ∧ m ≤ j := ⟨i - 1, by omega, by omega⟩
    obtain ⟨j, rfl, hj⟩ := e
    rw [nv_all (by omega), nv_all (by omega)] at h3
    have p1 := dg_len_lt (B := 10) (by omega) a
    have p2 := dg_len_lt (B := 10) (by omega) b
    have q1 : 10 ^ (dg 10 a).length ≤ 10 ^ j := Nat.pow_le_pow_right (by omega) (by omega)
    have q2 : 10 ^ (dg 10 b).length ≤ 10 ^ j := Nat.pow_le_pow_right (by omega) (by omega)
    have q3 : ((10 : Nat) : Int) ^ (j + 1) = ((10 ^ j : Nat) : Int) * 10 := by rw [Int.pow_succ, Int.natCast_pow]; rfl
    rw [q3] at h3
    have q4 : ((10 ^ j : Nat) : Int) * 10 * 1 ≤ ((10 ^ j : Nat) : Int) * 10 * c := Int.mul_le_mul_of_nonneg_left (by omega) (by omega)
    have q5 := nv_nonneg h2
    omega

/-- The call returns the decimal digits of the number n. -/
def RetT10 (w : World) (n : Nat) (e : Ending) (w' : World) : Prop := ∃ v, e = .returned v ∧ Rd w' v (dg 10 n) ∧ Below w.heap.size w w'

set_option maxHeartbeats 4000000 in
set_option maxRecDepth 100000 in
theorem rplus_any (a b : Nat) (v u : Value) (w : World) (hv : Rd w v (dg 10 a)) (hu : Rd w u (dg 10 b)) (ha : (dg 10 a).length ≤ 2000) (hb : (dg 10 b).length ≤ 2000) :
    Calls Tryz.prog 292 #[v, u] w (RetT10 w (a + b)) := by
  obtain ⟨A, c1, rfl, _, _, hxa⟩ := hv
  obtain ⟨A', c2, rfl, _, _, hxb⟩ := hu
  have HXA := Lib.hid hxa
  have HXB := Lib.hid hxb
  clear hxa hxb
  have PS := Lib.hid (fun (i : Nat) (c n : Int) ys (h : PI a b i c ys) hc hn hgo => h.step (n := n) hc rfl rfl hn hgo)
  have PD := Lib.hid (fun (i : Nat) ys (h : PI a b i 0 ys) h1 h2 => h.done h1 h2)
  have PB := Lib.hid (fun (i : Nat) c ys (h : PI a b i c ys) hc => h.bound hc 2000 ha hb)
  have PX := Lib.hid (fun i => dig_at a i)
  have PY := Lib.hid (fun i => dig_at b i)
  have OX := Lib.hid (fun i (h : ¬ i < (dg 10 a).length) => dig_out h)
  have OY := Lib.hid (fun i (h : ¬ i < (dg 10 b).length) => dig_out h)
  generalize hla : (dg 10 a).length = la at *
  generalize hlb : (dg 10 b).length = lb at *
  have HLA := Lib.hid hla
  have HLB := Lib.hid hlb
  clear hla hlb
  go_enter Tryz.func292, Tryz.ntmps292
  go_wp2
  go_loopg [5, 6, 7, 8] 2002 (fun kx s5 s6 s7 s8 wr => ∃ (i : Nat) (c : Int) (ys : List Int), s6 = .int .i64 c ∧ s7 = .int .i64 i ∧ i ≤ 2001 ∧ 2002 ≤ kx + i ∧ 0 ≤ c ∧ c ≤ 1 ∧ Hid (PI a b i c ys) ∧ wr.ownsRow w.heap.size 3 1 s5 ys.length (ys.map (Value.int .i64)) ∧ Below w.heap.size w wr)
  case atStart => exact ⟨0, 0, [], rfl, rfl, by omega, by omega, by omega, by omega, Lib.hid (PI.start a b), World.ownsRow_nil _ _ _ _, Below.refl _ _⟩
  case round =>
    obtain ⟨i, c, ys, rfl, rfl, hi, hkx, hc0, hc1, hI, hown, hnx⟩ := hrel
    have hyl : ys.length ≤ 1000000 := by rw [hI.out.1]; omega
    have hw1 : IntKind.i64.wrap ((i : Int) + 1) = (i : Int) + 1 := IntWalk.i64_in _ (by omega)
    obtain ⟨hx0, hx9⟩ := PX.out i
    obtain ⟨hy0, hy9⟩ := PY.out i
    have HS := Lib.hid (PS.out i c)
    have OXi := Lib.hid (OX.out i)
    have OYi := Lib.hid (OY.out i)
    have hcellA : Hid (i < la → ∃ g o, A = some ⟨g, o, none⟩ ∧ wr.cell? ⟨g, o + i, none⟩ = some (.int .i64 ((dg 10 a)[i]?.getD 0))) := Lib.hid (fun h => by
      obtain ⟨g, o, hA, hy⟩ := HXA.out (by omega)
      exact ⟨g, o, hA, (hnx.cell (cell_lt (hy i h))).trans (hy i h)⟩)
    have hcellB : Hid (i < lb → ∃ g o, A' = some ⟨g, o, none⟩ ∧ wr.cell? ⟨g, o + i, none⟩ = some (.int .i64 ((dg 10 b)[i]?.getD 0))) := Lib.hid (fun h => by
      obtain ⟨g, o, hA, hy⟩ := HXB.out (by omega)
      exact ⟨g, o, hA, (hnx.cell (cell_lt (hy i h))).trans (hy i h)⟩)
    have HB1 := Lib.hid (PB.out i c ys hI.out)
    by_cases hend : ¬ i < la ∧ ¬ i < lb ∧ c = 0
    · obtain ⟨h1, h2, rfl⟩ := hend
      have HR := Lib.hid (Rd.own hown hyl)
      have hfin := Lib.hid (PD.out i ys hI.out h1 h2)
      have h1' : ¬ (i : Int) < (la : Int) := by omega
      have h2' : ¬ (i : Int) < (lb : Int) := by omega
      clear hown
      go_wp2
      go_ret
      exact ⟨_, rfl, by rw [← hfin.out]; exact HR.out, hnx⟩
    · have HOWN := Lib.hid hown
      clear hown
      generalize (dg 10 a)[i]?.getD 0 = x at *
      generalize (dg 10 b)[i]?.getD 0 = y at *
      by_cases k1 : i < la
      · by_cases k2 : i < lb
        · skip
          obtain ⟨b1, o1, rfl, hcA⟩ := hcellA.out k1
          have k1' : (i : Int) < (la : Int) := by omega
          obtain ⟨b2, o2, rfl, hcB⟩ := hcellB.out k2
          have k2' : (i : Int) < (lb : Int) := by omega
          have hi2 : i ≤ 2000 := by omega
          have HN := Lib.hid (HS.out (c + x + y) ys hI.out hc0 (by omega) (by have := HLA.out; have := HLB.out; omega))
          clear hend
          go_wp2_with (at_builtin; refine app_int rfl (.tmp 46) (.tmp 49) rfl w.heap.size _ ys ((c + x + y) % 10) rfl HOWN.out rfl hyl hnx.size ?_; intro v' w3 hown3 hb3)
          go_roundg (2002 - (i + 1))
          case measure => omega
          case rel => exact ⟨i + 1, (c + x + y) / 10, ys ++ [(c + x + y) % 10], by go_num, by go_num, by omega, by omega, by omega, by omega, HN, hown3, hb3 _ _ hnx (Nat.le_refl _)⟩
        · skip
          obtain ⟨b1, o1, rfl, hcA⟩ := hcellA.out k1
          have k1' : (i : Int) < (la : Int) := by omega
          have k2' : ¬ (i : Int) < (lb : Int) := by omega
          have ey := OYi.out k2
          have hi2 : i ≤ 2000 := by omega
          have HN := Lib.hid (HS.out (c + x) ys hI.out hc0 (by omega) (by have := HLA.out; have := HLB.out; omega))
          clear ey
          clear hend
          go_wp2_with (at_builtin; refine app_int rfl (.tmp 46) (.tmp 49) rfl w.heap.size _ ys ((c + x) % 10) rfl HOWN.out rfl hyl hnx.size ?_; intro v' w3 hown3 hb3)
          go_roundg (2002 - (i + 1))
          case measure => omega
          case rel => exact ⟨i + 1, (c + x) / 10, ys ++ [(c + x) % 10], by go_num, by go_num, by omega, by omega, by omega, by omega, HN, hown3, hb3 _ _ hnx (Nat.le_refl _)⟩
      · by_cases k2 : i < lb
        · skip
          have k1' : ¬ (i : Int) < (la : Int) := by omega
          have ex := OXi.out k1
          obtain ⟨b2, o2, rfl, hcB⟩ := hcellB.out k2
          have k2' : (i : Int) < (lb : Int) := by omega
          have hi2 : i ≤ 2000 := by omega
          have HN := Lib.hid (HS.out (c + y) ys hI.out hc0 (by omega) (by have := HLA.out; have := HLB.out; omega))
          clear ex
          clear hend
          go_wp2_with (at_builtin; refine app_int rfl (.tmp 46) (.tmp 49) rfl w.heap.size _ ys ((c + y) % 10) rfl HOWN.out rfl hyl hnx.size ?_; intro v' w3 hown3 hb3)
          go_roundg (2002 - (i + 1))
          case measure => omega
          case rel => exact ⟨i + 1, (c + y) / 10, ys ++ [(c + y) % 10], by go_num, by go_num, by omega, by omega, by omega, by omega, HN, hown3, hb3 _ _ hnx (Nat.le_refl _)⟩
        · skip
          have k1' : ¬ (i : Int) < (la : Int) := by omega
          have ex := OXi.out k1
          have k2' : ¬ (i : Int) < (lb : Int) := by omega
          have ey := OYi.out k2
          have hcp : 0 < c := by omega
          have hi2 := HB1.out hcp
          have HN := Lib.hid (HS.out (c) ys hI.out hc0 (by omega) (by have := HLA.out; have := HLB.out; omega))
          clear ex
          clear ey
          clear hend
          go_wp2_with (at_builtin; refine app_int rfl (.tmp 46) (.tmp 49) rfl w.heap.size _ ys ((c) % 10) rfl HOWN.out rfl hyl hnx.size ?_; intro v' w3 hown3 hb3)
          go_roundg (2002 - (i + 1))
          case measure => omega
          case rel => exact ⟨i + 1, (c) / 10, ys ++ [(c) % 10], by go_num, by go_num, by omega, by omega, by omega, by omega, HN, hown3, hb3 _ _ hnx (Nat.le_refl _)⟩

end Go.Proofs.YtffndcjmabjhiaaGreatDoor

namespace Go.Proofs.YtffndcjmabjhiaaGreatDoor
open Go.RowKit Num
open Go.Shelf

def MI (a b i : Nat) (c : Int) (ys : List Int) : Prop := ys.length = i ∧ Dig 10 ys ∧ nv 10 ys - ((10 : Nat) : Int) ^ i * c = nv 10 ((dg 10 a).take i) - nv 10 ((dg 10 b).take i)
theorem MI.start (a b : Nat) : MI a b 0 0 [] := ⟨rfl, Dig.nil _, by simp [nv]⟩
theorem MI.step {a b i : Nat} {c x y n d : Int} {ys : List Int} (h : MI a b i c ys) (hx : x = (dg 10 a)[i]?.getD 0) (hy : y = (dg 10 b)[i]?.getD 0) (hn : n = x - c - y + 10 * d) (h0 : 0 ≤ n) (h1 : n ≤ 9) : MI a b (i + 1) d (ys ++ [n]) := by
  obtain ⟨k1, k2, k3⟩ := h
  refine ⟨by rw [List.length_append, k1]; rfl, k2.append (Dig.one h0 (by omega)), ?_⟩
  rw [nv_snoc, nv_take_succ, nv_take_succ, ← hx, ← hy, k1, Int.pow_succ]
  have e : ((10 : Nat) : Int) ^ i * n = ((10 : Nat) : Int) ^ i * x - ((10 : Nat) : Int) ^ i * c - ((10 : Nat) : Int) ^ i * y + ((10 : Nat) : Int) ^ i * ((10 : Nat) : Int) * d := by
    rw [hn, Int.mul_add, Int.mul_sub, Int.mul_sub, Int.mul_assoc]
    rfl
  omega
theorem MI.done {a b : Nat} {c : Int} {ys : List Int} (h : MI a b (dg 10 a).length c ys) (hab : b ≤ a) (hc : 0 ≤ c) (hc1 : c ≤ 1) : dg 10 (nv 10 ys).toNat = dg 10 (a - b) := by
  obtain ⟨k1, k2, k3⟩ := h
  have hl : ¬ (dg 10 a).length < (dg 10 b).length := fun k => by
    have := lt_of_len (B := 10) (by omega) k
    omega
  rw [nv_all (by omega), nv_all hl] at k3
  have p := nv_lt k2
  rw [k1] at p
  have hc0 : c = 0 := by
    rcases (show c = 0 ∨ c = 1 by omega) with e | e
    · exact e
    · subst e; rw [Int.mul_one] at k3; omega
  subst hc0
  rw [Int.mul_zero] at k3
  congr 1
  omega

/-- The same, and the digits lie in a new block. -/
def RetT10b (w : World) (n : Nat) (e : Ending) (w' : World) : Prop := ∃ v, e = .returned v ∧ Rd w' v (dg 10 n) ∧ Below w.heap.size w w' ∧ ∀ k, v.ownBlock = some k → w.heap.size ≤ k

set_option maxHeartbeats 4000000 in
set_option maxRecDepth 100000 in
theorem rminus_own (a b : Nat) (hab : b ≤ a) (v u : Value) (w : World) (hv : Rd w v (dg 10 a)) (hu : Rd w u (dg 10 b)) (ha : (dg 10 a).length ≤ 2000) :
    Calls Tryz.prog 293 #[v, u] w (RetT10b w (a - b)) := by
  obtain ⟨A, c1, rfl, _, _, hxa⟩ := hv
  obtain ⟨A', c2, rfl, _, _, hxb⟩ := hu
  have HXA := Lib.hid hxa
  have HXB := Lib.hid hxb
  clear hxa hxb
  have PS := Lib.hid (fun (i : Nat) (c n d : Int) ys (h : MI a b i c ys) hn h0 h1 => h.step (n := n) (d := d) rfl rfl hn h0 h1)
  have PD := Lib.hid (fun (c : Int) ys (h : MI a b (dg 10 a).length c ys) h1 h2 => h.done hab h1 h2)
  have PX := Lib.hid (fun i => dig_at a i)
  have PY := Lib.hid (fun i => dig_at b i)
  have OY := Lib.hid (fun i (h : ¬ i < (dg 10 b).length) => dig_out h)
  clear hab
  generalize hla : (dg 10 a).length = la at *
  generalize hlb : (dg 10 b).length = lb at *
  have HLA := Lib.hid hla
  have HLB := Lib.hid hlb
  clear hla hlb
  go_enter Tryz.func293, Tryz.ntmps293
  go_wp2
  go_loopg [5, 6, 7, 8] la (fun kx s5 s6 s7 s8 wr => ∃ (i : Nat) (c : Int) (ys : List Int), s6 = .int .i64 c ∧ s7 = .int .i64 i ∧ i ≤ la ∧ la ≤ kx + i ∧ 0 ≤ c ∧ c ≤ 1 ∧ Hid (MI a b i c ys) ∧ wr.ownsRow w.heap.size 3 1 s5 ys.length (ys.map (Value.int .i64)) ∧ Below w.heap.size w wr)
  case atStart => exact ⟨0, 0, [], rfl, rfl, by omega, by omega, by omega, by omega, Lib.hid (MI.start a b), World.ownsRow_nil _ _ _ _, Below.refl _ _⟩
  case round =>
    obtain ⟨i, c, ys, rfl, rfl, hi, hkx, hc0, hc1, hI, hown, hnx⟩ := hrel
    have hyl : ys.length ≤ 1000000 := by rw [hI.out.1]; omega
    have hw1 : IntKind.i64.wrap ((i : Int) + 1) = (i : Int) + 1 := IntWalk.i64_in _ (by omega)
    by_cases hend : ¬ i < la
    · obtain rfl : i = la := by omega
      have HR := Lib.hid (Rd.own hown hyl)
      have hfin := Lib.hid (PD.out c ys hI.out hc0 hc1)
      have TR := Lib.hid (trim_own _ ys _ HR.out hI.out.2.1)
      have h1' : ¬ (i : Int) < (i : Int) := by omega
      have hob := Lib.hid (fun k hk => (hown.lt k hk).1)
      clear hown
      go_wp2_with (go_at_call 321; (with_reducible refine TR.out.mono ?_); rintro e w1 ⟨v1, rfl, hr1, rfl, hv1⟩)
      go_ret
      exact ⟨_, rfl, by rw [← hfin.out]; exact hr1, hnx, fun k hk => hob.out k (hv1 ▸ hk)⟩
    · obtain ⟨hx0, hx9⟩ := PX.out i
      obtain ⟨hy0, hy9⟩ := PY.out i
      have HS := Lib.hid (PS.out i c)
      have OYi := Lib.hid (OY.out i)
      have hcellA : Hid (i < la → ∃ g o, A = some ⟨g, o, none⟩ ∧ wr.cell? ⟨g, o + i, none⟩ = some (.int .i64 ((dg 10 a)[i]?.getD 0))) := Lib.hid (fun h => by
        obtain ⟨g, o, hA, hy⟩ := HXA.out (by omega)
        exact ⟨g, o, hA, (hnx.cell (cell_lt (hy i h))).trans (hy i h)⟩)
      have hcellB : Hid (i < lb → ∃ g o, A' = some ⟨g, o, none⟩ ∧ wr.cell? ⟨g, o + i, none⟩ = some (.int .i64 ((dg 10 b)[i]?.getD 0))) := Lib.hid (fun h => by
        obtain ⟨g, o, hA, hy⟩ := HXB.out (by omega)
        exact ⟨g, o, hA, (hnx.cell (cell_lt (hy i h))).trans (hy i h)⟩)
      have HOWN := Lib.hid hown
      clear hown
      generalize (dg 10 a)[i]?.getD 0 = x at *
      generalize (dg 10 b)[i]?.getD 0 = y at *
      have k1 : i < la := by omega
      have k1' : (i : Int) < (la : Int) := by omega
      obtain ⟨b1, o1, rfl, hcA⟩ := hcellA.out k1
      clear hend
      by_cases k2 : i < lb
      · obtain ⟨b2, o2, rfl, hcB⟩ := hcellB.out k2
        have k2' : (i : Int) < (lb : Int) := by omega
        by_cases hneg : x - c - y < 0
        · skip
          have hng : x - c - y < 0 := by omega
          have HN := Lib.hid (HS.out (x - c - y + 10) 1 ys hI.out (by omega) (by omega) (by omega))
          go_wp2_with (at_builtin; refine app_int rfl (.tmp 35) (.tmp 37) rfl w.heap.size _ ys (x - c - y + 10) rfl HOWN.out rfl hyl hnx.size ?_; intro v' w3 hown3 hb3)
          go_roundg (la - (i + 1))
          case measure => omega
          case rel => exact ⟨i + 1, 1, ys ++ [x - c - y + 10], by go_num, by go_num, by omega, by omega, by omega, by omega, HN, hown3, hb3 _ _ hnx (Nat.le_refl _)⟩
        · skip
          have hng : ¬ x - c - y < 0 := by omega
          have HN := Lib.hid (HS.out (x - c - y) 0 ys hI.out (by omega) (by omega) (by omega))
          go_wp2_with (at_builtin; refine app_int rfl (.tmp 35) (.tmp 37) rfl w.heap.size _ ys (x - c - y) rfl HOWN.out rfl hyl hnx.size ?_; intro v' w3 hown3 hb3)
          go_roundg (la - (i + 1))
          case measure => omega
          case rel => exact ⟨i + 1, 0, ys ++ [x - c - y], by go_num, by go_num, by omega, by omega, by omega, by omega, HN, hown3, hb3 _ _ hnx (Nat.le_refl _)⟩
      · have k2' : ¬ (i : Int) < (lb : Int) := by omega
        have ey := OYi.out k2
        by_cases hneg : x - c < 0
        · skip
          have hng : x - c < 0 := by omega
          have HN := Lib.hid (HS.out (x - c + 10) 1 ys hI.out (by omega) (by omega) (by omega))
          clear ey
          go_wp2_with (at_builtin; refine app_int rfl (.tmp 35) (.tmp 37) rfl w.heap.size _ ys (x - c + 10) rfl HOWN.out rfl hyl hnx.size ?_; intro v' w3 hown3 hb3)
          go_roundg (la - (i + 1))
          case measure => omega
          case rel => exact ⟨i + 1, 1, ys ++ [x - c + 10], by go_num, by go_num, by omega, by omega, by omega, by omega, HN, hown3, hb3 _ _ hnx (Nat.le_refl _)⟩
        · skip
          have hng : ¬ x - c < 0 := by omega
          have HN := Lib.hid (HS.out (x - c) 0 ys hI.out (by omega) (by omega) (by omega))
          clear ey
          go_wp2_with (at_builtin; refine app_int rfl (.tmp 35) (.tmp 37) rfl w.heap.size _ ys (x - c) rfl HOWN.out rfl hyl hnx.size ?_; intro v' w3 hown3 hb3)
          go_roundg (la - (i + 1))
          case measure => omega
          case rel => exact ⟨i + 1, 0, ys ++ [x - c], by go_num, by go_num, by omega, by omega, by omega, by omega, HN, hown3, hb3 _ _ hnx (Nat.le_refl _)⟩

theorem rminus_any (a b : Nat) (hab : b ≤ a) (v u : Value) (w : World) (hv : Rd w v (dg 10 a)) (hu : Rd w u (dg 10 b)) (ha : (dg 10 a).length ≤ 2000) :
    Calls Tryz.prog 293 #[v, u] w (RetT10 w (a - b)) :=
  (rminus_own a b hab v u w hv hu ha).mono fun _ _ ⟨v, h1, h2, h3, _⟩ => ⟨v, h1, h2, h3⟩

end Go.Proofs.YtffndcjmabjhiaaGreatDoor

namespace Go.Proofs.YtffndcjmabjhiaaGreatDoor
open Go.RowKit Num
open Go.Shelf

set_option maxHeartbeats 1000000 in
theorem checked_any (neg : Bool) (n : Nat) (v : Value) (w : World) (hv : Rd w v (dg 10 n)) : Calls Tryz.prog 291 #[.bool neg, v] w (RetP w (outI (sgn neg n))) := by
  have TX := Lib.hid (rtext_any neg n v w hv)
  by_cases h : n < 10 ^ 200
  · rw [outI_ok (by rw [sgn_abs]; exact h)]
    rw [decide_eq_true h] at TX
    clear h hv
    go_enter Tryz.func291, Tryz.ntmps291
    go_wp2_with (go_at_call 228; (with_reducible refine TX.out.mono ?_); rintro e w1 ⟨rfl, hb1⟩)
    go_ret2
    exact ⟨rfl, hb1⟩
  · rw [outI_no (by rw [sgn_abs]; exact h)]
    rw [decide_eq_false h] at TX
    clear h hv
    go_enter Tryz.func291, Tryz.ntmps291
    go_wp2_with (go_at_call 228; (with_reducible refine TX.out.mono ?_); rintro e w1 ⟨rfl, hb1⟩)
    go_ret2
    exact ⟨rfl, hb1⟩

theorem RetP.up {w w1 : World} (h : Below w.heap.size w w1) {p : ByteArray × Int} {e : Ending} {w' : World} (k : RetP w1 p e w') : RetP w p e w' := ⟨k.1, below_up h k.2⟩

set_option maxHeartbeats 2000000 in
theorem rsum_any (x y : Bool) (m n : Nat) (v u : Value) (w : World) (hv : Rd w v (dg 10 m)) (hu : Rd w u (dg 10 n)) (hm : (dg 10 m).length ≤ 2000) (hn : (dg 10 n).length ≤ 2000) :
    Calls Tryz.prog 289 #[.bool x, v, .bool y, u] w (RetP w (outI (sgn x m + sgn y n))) := by
  have HV := Lib.hid hv
  have HU := Lib.hid hu
  by_cases hxy : x = y
  · subst hxy
    have P := Lib.hid (rplus_any m n v u w hv hu hm hn)
    have e : Hid (sgn x m + sgn x n = sgn x (m + n)) := Lib.hid (by unfold sgn; cases x <;> simp; omega)
    clear hv hu
    have hb : (x == x) = true := by simp
    go_enter Tryz.func289, Tryz.ntmps289
    go_wp2_with (first
      | (go_at_call 292; (with_reducible refine P.out.mono ?_); rintro e w1 ⟨v1, rfl, hr1, hb1⟩)
      | (go_at_call 291; (with_reducible refine (checked_any x (m + n) v1 _ hr1).mono ?_); rintro e w2 ⟨rfl, hb2⟩))
    go_ret2
    exact ⟨by rw [e.out]; rfl, below_up hb1 hb2⟩
  · have hb : (x == y) = false := by rw [beq_eq_false_iff_ne]; exact hxy
    have O := Lib.hid (rorder_any m n v u w hv hu)
    by_cases hmn : n ≤ m
    · have hc : (0 : Int) ≤ Lib.compareInt m n := by unfold Lib.compareInt; rw [if_neg (by omega)]; split <;> omega
      have M := fun w1 (hb1 : Below w.heap.size w w1) => Lib.hid (rminus_any m n hmn v u w1 (HV.out.below hb1) (HU.out.below hb1) hm)
      have e : Hid (sgn x m + sgn y n = sgn x (m - n : Nat)) := Lib.hid (by unfold sgn; revert hxy; cases x <;> cases y <;> simp <;> omega)
      generalize Lib.compareInt m n = c at *
      clear hv hu hxy hmn
      have M := Lib.hid M
      go_enter Tryz.func289, Tryz.ntmps289
      go_wp2_with (first
        | (go_at_call 288; (with_reducible refine O.out.mono ?_); rintro e w1 ⟨rfl, hb1⟩)
        | (go_at_call 293; (with_reducible refine (M.out _ hb1).out.mono ?_); rintro e w2 ⟨v1, rfl, hr1, hb2⟩)
        | (go_at_call 291; (with_reducible refine (checked_any x (m - n) v1 _ hr1).mono ?_); rintro e w3 ⟨rfl, hb3⟩))
      go_ret2
      exact ⟨by rw [e.out]; rfl, below_up hb1 (below_up hb2 hb3)⟩
    · have hc : ¬ (0 : Int) ≤ Lib.compareInt m n := by unfold Lib.compareInt; rw [if_pos (by omega)]; omega
      have M := fun w1 (hb1 : Below w.heap.size w w1) => Lib.hid (rminus_any n m (by omega) u v w1 (HU.out.below hb1) (HV.out.below hb1) hn)
      have e : Hid (sgn x m + sgn y n = sgn y (n - m : Nat)) := Lib.hid (by unfold sgn; revert hxy; cases x <;> cases y <;> simp <;> omega)
      generalize Lib.compareInt m n = c at *
      clear hv hu hxy hmn
      have M := Lib.hid M
      go_enter Tryz.func289, Tryz.ntmps289
      go_wp2_with (first
        | (go_at_call 288; (with_reducible refine O.out.mono ?_); rintro e w1 ⟨rfl, hb1⟩)
        | (go_at_call 293; (with_reducible refine (M.out _ hb1).out.mono ?_); rintro e w2 ⟨v1, rfl, hr1, hb2⟩)
        | (go_at_call 291; (with_reducible refine (checked_any y (n - m) v1 _ hr1).mono ?_); rintro e w3 ⟨rfl, hb3⟩))
      go_ret2
      exact ⟨by rw [e.out]; rfl, below_up hb1 (below_up hb2 hb3)⟩

theorem is_len {s : ByteArray} {z : Int} (h : rdI s = some z) : (dg 10 z.natAbs).length ≤ 200 := dg_len (by omega) 200 _ (rd_small h)

theorem rvalid_some {s : ByteArray} {z : Int} (h : rdI s = some z) (w : World) : Calls Tryz.prog 223 #[.string s] w (RetB w true) := by
  have := rvalid_any s (by have := Is.size h; omega) w
  rw [h] at this
  exact this
theorem rvalid_none {s : ByteArray} (hs : s.size ≤ 9223372036854775807) (h : rdI s = none) (w : World) : Calls Tryz.prog 223 #[.string s] w (RetB w false) := by
  have := rvalid_any s hs w
  rw [h] at this
  exact this

/-- The two tests that open a function of two integers: where they fail. -/
theorem cases_two (a b : ByteArray) : (∃ x y, rdI a = some x ∧ rdI b = some y) ∨ (rdI a = none) ∨ (∃ x, rdI a = some x ∧ rdI b = none) := by
  cases ha : rdI a with
  | none => exact .inr (.inl rfl)
  | some x =>
    cases hb : rdI b with
    | none => exact .inr (.inr ⟨x, rfl, rfl⟩)
    | some y => exact .inl ⟨x, y, rfl, rfl⟩

set_option maxHeartbeats 2000000 in
theorem radd_any (a b : ByteArray) (has : a.size ≤ 9223372036854775807) (hbs : b.size ≤ 9223372036854775807) (w : World) :
    Calls Tryz.prog 270 #[.string a, .string b] w (RetP w (op2 (fun x y => outI (x + y)) a b)) := by
  rcases cases_two a b with ⟨x, y, ha, hb⟩ | ha | ⟨x, ha, hb⟩
  · rw [op2_ok ha hb]
    have V1 := Lib.hid (fun w => rvalid_some ha w)
    have V2 := Lib.hid (fun w => rvalid_some hb w)
    have D1 := Lib.hid (fun w => digits_any (s := a) ha w)
    have D2 := Lib.hid (fun w => digits_any (s := b) hb w)
    have S := Lib.hid (fun v u w hv hu => rsum_any (decide (x < 0)) (decide (y < 0)) x.natAbs y.natAbs v u w hv hu (by have := is_len ha; omega) (by have := is_len hb; omega))
    rw [sgn_self, sgn_self] at S
    clear ha hb has hbs
    go_enter Tryz.func270, Tryz.ntmps270
    go_wp2_with (first
      | (go_at_call 223; (with_reducible refine (V1.out _).mono ?_); rintro e w1 ⟨rfl, hb1⟩)
      | (go_at_call 223; (with_reducible refine (V2.out _).mono ?_); rintro e w2 ⟨rfl, hb2⟩)
      | (go_at_call 287; (with_reducible refine (D1.out _).mono ?_); rintro e w3 ⟨v3, rfl, hr3, hb3⟩)
      | (go_at_call 287; (with_reducible refine (D2.out _).mono ?_); rintro e w4 ⟨v4, rfl, hr4, hb4⟩)
      | (go_at_call 289; (with_reducible refine (S.out v3 v4 _ (hr3.below hb4) hr4).mono ?_); rintro e w5 ⟨rfl, hb5⟩))
    go_ret2
    exact ⟨rfl, below_up hb1 (below_up hb2 (below_up hb3 (below_up hb4 hb5)))⟩
  · rw [op2_no (.inl ha)]
    have V1 := Lib.hid (fun w => rvalid_none has ha w)
    clear ha has hbs
    go_enter Tryz.func270, Tryz.ntmps270
    go_wp2_with (go_at_call 223; (with_reducible refine (V1.out _).mono ?_); rintro e w1 ⟨rfl, hb1⟩)
    go_ret2
    exact ⟨rfl, hb1⟩
  · rw [op2_no (.inr hb)]
    have V1 := Lib.hid (fun w => rvalid_some ha w)
    have V2 := Lib.hid (fun w => rvalid_none hbs hb w)
    clear ha hb has hbs
    go_enter Tryz.func270, Tryz.ntmps270
    go_wp2_with (first
      | (go_at_call 223; (with_reducible refine (V1.out _).mono ?_); rintro e w1 ⟨rfl, hb1⟩)
      | (go_at_call 223; (with_reducible refine (V2.out _).mono ?_); rintro e w2 ⟨rfl, hb2⟩))
    go_ret2
    exact ⟨rfl, below_up hb1 hb2⟩

end Go.Proofs.YtffndcjmabjhiaaGreatDoor

namespace Go.Proofs.YtffndcjmabjhiaaGreatDoor
open Go.RowKit Num
open Go.Shelf

set_option maxHeartbeats 2000000 in
theorem rsub_any (a b : ByteArray) (has : a.size ≤ 9223372036854775807) (hbs : b.size ≤ 9223372036854775807) (w : World) :
    Calls Tryz.prog 225 #[.string a, .string b] w (RetP w (op2 (fun x y => outI (x - y)) a b)) := by
  rcases cases_two a b with ⟨x, y, ha, hb⟩ | ha | ⟨x, ha, hb⟩
  · rw [op2_ok ha hb]
    have V1 := Lib.hid (fun w => rvalid_some ha w)
    have V2 := Lib.hid (fun w => rvalid_some hb w)
    have D1 := Lib.hid (fun w => digits_any (s := a) ha w)
    have D2 := Lib.hid (fun w => digits_any (s := b) hb w)
    have S := Lib.hid (fun v u w hv hu => rsum_any (decide (x < 0)) (!decide (y < 0)) x.natAbs y.natAbs v u w hv hu (by have := is_len ha; omega) (by have := is_len hb; omega))
    rw [sgn_not, sgn_self, sgn_self, ← Int.sub_eq_add_neg] at S
    clear ha hb has hbs
    go_enter Tryz.func225, Tryz.ntmps225
    go_wp2_with (first
      | (go_at_call 223; (with_reducible refine (V1.out _).mono ?_); rintro e w1 ⟨rfl, hb1⟩)
      | (go_at_call 223; (with_reducible refine (V2.out _).mono ?_); rintro e w2 ⟨rfl, hb2⟩)
      | (go_at_call 287; (with_reducible refine (D1.out _).mono ?_); rintro e w3 ⟨v3, rfl, hr3, hb3⟩)
      | (go_at_call 287; (with_reducible refine (D2.out _).mono ?_); rintro e w4 ⟨v4, rfl, hr4, hb4⟩)
      | (go_at_call 289; (with_reducible refine (S.out v3 v4 _ (hr3.below hb4) hr4).mono ?_); rintro e w5 ⟨rfl, hb5⟩))
    go_ret2
    exact ⟨rfl, below_up hb1 (below_up hb2 (below_up hb3 (below_up hb4 hb5)))⟩
  · rw [op2_no (.inl ha)]
    have V1 := Lib.hid (fun w => rvalid_none has ha w)
    clear ha has hbs
    go_enter Tryz.func225, Tryz.ntmps225
    go_wp2_with (go_at_call 223; (with_reducible refine (V1.out _).mono ?_); rintro e w1 ⟨rfl, hb1⟩)
    go_ret2
    exact ⟨rfl, hb1⟩
  · rw [op2_no (.inr hb)]
    have V1 := Lib.hid (fun w => rvalid_some ha w)
    have V2 := Lib.hid (fun w => rvalid_none hbs hb w)
    clear ha hb has hbs
    go_enter Tryz.func225, Tryz.ntmps225
    go_wp2_with (first
      | (go_at_call 223; (with_reducible refine (V1.out _).mono ?_); rintro e w1 ⟨rfl, hb1⟩)
      | (go_at_call 223; (with_reducible refine (V2.out _).mono ?_); rintro e w2 ⟨rfl, hb2⟩))
    go_ret2
    exact ⟨rfl, below_up hb1 hb2⟩

set_option maxHeartbeats 2000000 in
theorem rcompare_any (a b : ByteArray) (has : a.size ≤ 9223372036854775807) (hbs : b.size ≤ 9223372036854775807) (w : World) :
    Calls Tryz.prog 224 #[.string a, .string b] w (RetI w (cmpI a b)) := by
  rcases cases_two a b with ⟨x, y, ha, hb⟩ | ha | ⟨x, ha, hb⟩
  · have hc : cmpI a b = Lib.compareInt x y := by unfold cmpI; rw [ha, hb]
    rw [hc, cmp_cases]
    have V1 := Lib.hid (fun w => rvalid_some ha w)
    have V2 := Lib.hid (fun w => rvalid_some hb w)
    have D1 := Lib.hid (fun w => digits_any (s := a) ha w)
    have D2 := Lib.hid (fun w => digits_any (s := b) hb w)
    have O1 := Lib.hid (fun v u w hv hu => rorder_any x.natAbs y.natAbs v u w hv hu)
    have O2 := Lib.hid (fun v u w hv hu => rorder_any y.natAbs x.natAbs v u w hv hu)
    clear ha hb has hbs hc
    by_cases hx : x < 0
    · by_cases hy : y < 0
      · rw [if_pos hx, if_pos hy]
        rw [decide_eq_true hx] at D1
        rw [decide_eq_true hy] at D2
        clear hx hy O1
        go_enter Tryz.func224, Tryz.ntmps224
        go_wp2_with (first
          | (go_at_call 223; (with_reducible refine (V1.out _).mono ?_); rintro e w1 ⟨rfl, hb1⟩)
          | (go_at_call 223; (with_reducible refine (V2.out _).mono ?_); rintro e w2 ⟨rfl, hb2⟩)
          | (go_at_call 287; (with_reducible refine (D1.out _).mono ?_); rintro e w3 ⟨v3, rfl, hr3, hb3⟩)
          | (go_at_call 287; (with_reducible refine (D2.out _).mono ?_); rintro e w4 ⟨v4, rfl, hr4, hb4⟩)
          | (go_at_call 288; (with_reducible refine (O2.out v4 v3 _ hr4 (hr3.below hb4)).mono ?_); rintro e w5 ⟨rfl, hb5⟩))
        go_ret
        exact ⟨rfl, below_up hb1 (below_up hb2 (below_up hb3 (below_up hb4 hb5)))⟩
      · rw [if_pos hx, if_neg hy]
        rw [decide_eq_true hx] at D1
        rw [decide_eq_false hy] at D2
        clear hx hy O1 O2
        go_enter Tryz.func224, Tryz.ntmps224
        go_wp2_with (first
          | (go_at_call 223; (with_reducible refine (V1.out _).mono ?_); rintro e w1 ⟨rfl, hb1⟩)
          | (go_at_call 223; (with_reducible refine (V2.out _).mono ?_); rintro e w2 ⟨rfl, hb2⟩)
          | (go_at_call 287; (with_reducible refine (D1.out _).mono ?_); rintro e w3 ⟨v3, rfl, hr3, hb3⟩)
          | (go_at_call 287; (with_reducible refine (D2.out _).mono ?_); rintro e w4 ⟨v4, rfl, hr4, hb4⟩))
        go_ret
        exact ⟨rfl, below_up hb1 (below_up hb2 (below_up hb3 hb4))⟩
    · by_cases hy : y < 0
      · rw [if_neg hx, if_pos hy]
        rw [decide_eq_false hx] at D1
        rw [decide_eq_true hy] at D2
        clear hx hy O1 O2
        go_enter Tryz.func224, Tryz.ntmps224
        go_wp2_with (first
          | (go_at_call 223; (with_reducible refine (V1.out _).mono ?_); rintro e w1 ⟨rfl, hb1⟩)
          | (go_at_call 223; (with_reducible refine (V2.out _).mono ?_); rintro e w2 ⟨rfl, hb2⟩)
          | (go_at_call 287; (with_reducible refine (D1.out _).mono ?_); rintro e w3 ⟨v3, rfl, hr3, hb3⟩)
          | (go_at_call 287; (with_reducible refine (D2.out _).mono ?_); rintro e w4 ⟨v4, rfl, hr4, hb4⟩))
        go_ret
        exact ⟨rfl, below_up hb1 (below_up hb2 (below_up hb3 hb4))⟩
      · rw [if_neg hx, if_neg hy]
        rw [decide_eq_false hx] at D1
        rw [decide_eq_false hy] at D2
        clear hx hy O2
        go_enter Tryz.func224, Tryz.ntmps224
        go_wp2_with (first
          | (go_at_call 223; (with_reducible refine (V1.out _).mono ?_); rintro e w1 ⟨rfl, hb1⟩)
          | (go_at_call 223; (with_reducible refine (V2.out _).mono ?_); rintro e w2 ⟨rfl, hb2⟩)
          | (go_at_call 287; (with_reducible refine (D1.out _).mono ?_); rintro e w3 ⟨v3, rfl, hr3, hb3⟩)
          | (go_at_call 287; (with_reducible refine (D2.out _).mono ?_); rintro e w4 ⟨v4, rfl, hr4, hb4⟩)
          | (go_at_call 288; (with_reducible refine (O1.out v3 v4 _ (hr3.below hb4) hr4).mono ?_); rintro e w5 ⟨rfl, hb5⟩))
        go_ret
        exact ⟨rfl, below_up hb1 (below_up hb2 (below_up hb3 (below_up hb4 hb5)))⟩
  · rw [show cmpI a b = 0 by unfold cmpI; rw [ha]]
    have V1 := Lib.hid (fun w => rvalid_none has ha w)
    clear ha has hbs
    go_enter Tryz.func224, Tryz.ntmps224
    go_wp2_with (go_at_call 223; (with_reducible refine (V1.out _).mono ?_); rintro e w1 ⟨rfl, hb1⟩)
    go_ret
    exact ⟨rfl, hb1⟩
  · rw [show cmpI a b = 0 by unfold cmpI; rw [ha, hb]]
    have V1 := Lib.hid (fun w => rvalid_some ha w)
    have V2 := Lib.hid (fun w => rvalid_none hbs hb w)
    clear ha hb has hbs
    go_enter Tryz.func224, Tryz.ntmps224
    go_wp2_with (first
      | (go_at_call 223; (with_reducible refine (V1.out _).mono ?_); rintro e w1 ⟨rfl, hb1⟩)
      | (go_at_call 223; (with_reducible refine (V2.out _).mono ?_); rintro e w2 ⟨rfl, hb2⟩))
    go_ret
    exact ⟨rfl, below_up hb1 hb2⟩

end Go.Proofs.YtffndcjmabjhiaaGreatDoor
