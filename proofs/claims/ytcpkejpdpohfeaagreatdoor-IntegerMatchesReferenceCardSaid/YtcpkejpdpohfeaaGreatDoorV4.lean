/- The walk of the reference implementation's 'plus'. Conditions: sizes. -/
import Derived.Test.YtcpkejpdpohfeaaGreatDoorV3
namespace Go.Proofs.YtcpkejpdpohfeaaGreatDoor
open Go.RowKit Num
open Go.Shelf

theorem nv_take_succ (l : List Int) (i : Nat) : nv 10 (l.take (i + 1)) = nv 10 (l.take i) + ((10 : Nat) : Int) ^ i * (l[i]?.getD 0) := by
  by_cases h : i < l.length
  · rw [List.take_succ_eq_append_getElem h, nv_snoc, List.length_take, Nat.min_eq_left (by omega), List.getElem?_eq_getElem h]
    rfl
  · rw [List.take_of_length_le (by omega), List.take_of_length_le (by omega), List.getElem?_eq_none (by omega)]
    simp
theorem dig_at (a i : Nat) : 0 ≤ (dg 10 a)[i]?.getD 0 ∧ (dg 10 a)[i]?.getD 0 ≤ 9 := by
  by_cases h : i < (dg 10 a).length
  · rw [List.getElem?_eq_getElem h]
    have := dig_dg (B := 10) (by omega) a _ (List.getElem_mem h)
    simp only [Option.getD_some]
    omega
  · rw [List.getElem?_eq_none (by omega)]
    simp
theorem dig_out {a i : Nat} (h : ¬ i < (dg 10 a).length) : (dg 10 a)[i]?.getD 0 = 0 := by
  rw [List.getElem?_eq_none (by omega)]; rfl
theorem dig_top {a i : Nat} (h : i < (dg 10 a).length) (h1 : ¬ i + 1 < (dg 10 a).length) : (dg 10 a)[i]?.getD 0 ≠ 0 := by
  have h2 := dg_last (B := 10) (by omega) a
  rw [List.getLast?_eq_getElem?, show (dg 10 a).length - 1 = i by omega] at h2
  intro k
  apply h2
  rw [List.getElem?_eq_getElem h] at k ⊢
  simp only [Option.getD_some] at k
  rw [k]
theorem nv_all {a i : Nat} (h : ¬ i < (dg 10 a).length) : nv 10 ((dg 10 a).take i) = a := by
  rw [List.take_of_length_le (by omega), nv_dg (by omega)]

/-- What stands when i digits are done. -/
def PI (a b i : Nat) (c : Int) (ys : List Int) : Prop := ys.length = i ∧ Dig 10 ys ∧ nv 10 ys + ((10 : Nat) : Int) ^ i * c = nv 10 ((dg 10 a).take i) + nv 10 ((dg 10 b).take i) ∧
  (ys.getLast? = some 0 → i < (dg 10 a).length ∨ i < (dg 10 b).length ∨ 0 < c)
theorem PI.start (a b : Nat) : PI a b 0 0 [] := ⟨rfl, Dig.nil _, by simp [nv], fun h => by simp at h⟩
theorem PI.step {a b i : Nat} {c x y n : Int} {ys : List Int} (h : PI a b i c ys) (hc : 0 ≤ c) (hx : x = (dg 10 a)[i]?.getD 0) (hy : y = (dg 10 b)[i]?.getD 0) (hn : n = c + x + y)
    (hgo : i < (dg 10 a).length ∨ i < (dg 10 b).length ∨ 0 < c) : PI a b (i + 1) (n / 10) (ys ++ [n % 10]) := by
  obtain ⟨h1, h2, h3, h4⟩ := h
  have hx1 := dig_at a i
  have hy1 := dig_at b i
  rw [← hx] at hx1
  rw [← hy] at hy1
  have hm0 : 0 ≤ n % 10 := by omega
  have hm1 : n % 10 < 10 := by omega
  refine ⟨by rw [List.length_append, h1]; rfl, h2.append (Dig.one hm0 hm1), ?_, ?_⟩
  · rw [nv_snoc, nv_take_succ, nv_take_succ, ← hx, ← hy, h1, Int.pow_succ]
    have e : n = 10 * (n / 10) + n % 10 := by omega
    have e2 : (((10 : Nat) : Int)) ^ i * n = ((10 : Nat) : Int) ^ i * c + ((10 : Nat) : Int) ^ i * x + ((10 : Nat) : Int) ^ i * y := by rw [hn, Int.mul_add, Int.mul_add]
    have e3 : (((10 : Nat) : Int)) ^ i * n = ((10 : Nat) : Int) ^ i * ((10 : Nat) : Int) * (n / 10) + ((10 : Nat) : Int) ^ i * (n % 10) := by
      rw [Int.mul_assoc, ← Int.mul_add]
      congr 1
    omega
  · intro hl
    rw [List.getLast?_append] at hl
    simp only [List.getLast?_singleton, Option.some_or, Option.some.injEq] at hl
    by_cases k1 : i + 1 < (dg 10 a).length
    · exact .inl k1
    · by_cases k2 : i + 1 < (dg 10 b).length
      · exact .inr (.inl k2)
      · refine .inr (.inr ?_)
        rcases hgo with g | g | g
        · have := dig_top g k1
          rw [← hx] at this
          omega
        · have := dig_top g k2
          rw [← hy] at this
          omega
        · omega
theorem PI.done {a b i : Nat} {ys : List Int} (h : PI a b i 0 ys) (ha : ¬ i < (dg 10 a).length) (hb : ¬ i < (dg 10 b).length) : ys = dg 10 (a + b) := by
  obtain ⟨h1, h2, h3, h4⟩ := h
  rw [nv_all ha, nv_all hb] at h3
  have e := canon (B := 10) (by omega) ys h2 (fun k => by rcases h4 k with g | g | g <;> omega)
  rw [e]
  congr 1
  omega
theorem PI.bound {a b i : Nat} {c : Int} {ys : List Int} (h : PI a b i c ys) (hc : 0 < c) (m : Nat) (ha : (dg 10 a).length ≤ m) (hb : (dg 10 b).length ≤ m) : i ≤ m := by
  obtain ⟨h1, h2, h3, h4⟩ := h
  by_cases k : i ≤ m
  · exact k
  · have e : ∃ j, i = j + 1 ∧ m ≤ j := ⟨i - 1, by omega, by omega⟩
    obtain ⟨j, rfl, hj⟩ := e
    rw [nv_all (by omega), nv_all (by omega)] at h3
    have p1 := dg_len_lt (B := 10) (by omega) a
    have p2 := dg_len_lt (B := 10) (by omega) b
    have q1 : 10 ^ (dg 10 a).length ≤ 10 ^ j := Nat.pow_le_pow_right (by omega) (by omega)
    have q2 : 10 ^ (dg 10 b).length ≤ 10 ^ j := Nat.pow_le_pow_right (by omega) (by omega)
    have q3 : ((10 : Nat) : Int) ^ (j + 1) = ((10 ^ j : Nat) : Int) * 10 := by rw [Int.pow_succ, Int.natCast_pow]; rfl
    rw [q3] at h3
    have q4 : ((10 ^ j : Nat) : Int) * 10 * 1 ≤ ((10 ^ j : Nat) : Int) * 10 * c := Int.mul_le_mul_of_nonneg_left (by omega) (by omega)
    have q5 := nv_nonneg h2
    omega

/-- The call returns the decimal digits of the number n. -/
def RetT10 (w : World) (n : Nat) (e : Ending) (w' : World) : Prop := ∃ v, e = .returned v ∧ Rd w' v (dg 10 n) ∧ Below w.heap.size w w'

set_option maxHeartbeats 4000000 in
set_option maxRecDepth 100000 in
theorem rplus_any (a b : Nat) (v u : Value) (w : World) (hv : Rd w v (dg 10 a)) (hu : Rd w u (dg 10 b)) (ha : (dg 10 a).length ≤ 2000) (hb : (dg 10 b).length ≤ 2000) :
    Calls Tryz.prog 53 #[v, u] w (RetT10 w (a + b)) := by
  obtain ⟨A, c1, rfl, _, _, hxa⟩ := hv
  obtain ⟨A', c2, rfl, _, _, hxb⟩ := hu
  have HXA := Lib.hid hxa
  have HXB := Lib.hid hxb
  clear hxa hxb
  have PS := Lib.hid (fun (i : Nat) (c n : Int) ys (h : PI a b i c ys) hc hn hgo => h.step (n := n) hc rfl rfl hn hgo)
  have PD := Lib.hid (fun (i : Nat) ys (h : PI a b i 0 ys) h1 h2 => h.done h1 h2)
  have PB := Lib.hid (fun (i : Nat) c ys (h : PI a b i c ys) hc => h.bound hc 2000 ha hb)
  have PX := Lib.hid (fun i => dig_at a i)
  have PY := Lib.hid (fun i => dig_at b i)
  have OX := Lib.hid (fun i (h : ¬ i < (dg 10 a).length) => dig_out h)
  have OY := Lib.hid (fun i (h : ¬ i < (dg 10 b).length) => dig_out h)
  generalize hla : (dg 10 a).length = la at *
  generalize hlb : (dg 10 b).length = lb at *
  have HLA := Lib.hid hla
  have HLB := Lib.hid hlb
  clear hla hlb
  go_enter Tryz.func53, Tryz.ntmps53
  go_wp2
  go_loopg [5, 6, 7, 8] 2002 (fun kx s5 s6 s7 s8 wr => ∃ (i : Nat) (c : Int) (ys : List Int), s6 = .int .i64 c ∧ s7 = .int .i64 i ∧ i ≤ 2001 ∧ 2002 ≤ kx + i ∧ 0 ≤ c ∧ c ≤ 1 ∧ Hid (PI a b i c ys) ∧ wr.ownsRow w.heap.size 3 1 s5 ys.length (ys.map (Value.int .i64)) ∧ Below w.heap.size w wr)
  case atStart => exact ⟨0, 0, [], rfl, rfl, by omega, by omega, by omega, by omega, Lib.hid (PI.start a b), World.ownsRow_nil _ _ _ _, Below.refl _ _⟩
  case round =>
    obtain ⟨i, c, ys, rfl, rfl, hi, hkx, hc0, hc1, hI, hown, hnx⟩ := hrel
    have hyl : ys.length ≤ 1000000 := by rw [hI.out.1]; omega
    have hw1 : IntKind.i64.wrap ((i : Int) + 1) = (i : Int) + 1 := IntWalk.i64_in _ (by omega)
    obtain ⟨hx0, hx9⟩ := PX.out i
    obtain ⟨hy0, hy9⟩ := PY.out i
    have HS := Lib.hid (PS.out i c)
    have OXi := Lib.hid (OX.out i)
    have OYi := Lib.hid (OY.out i)
    have hcellA : Hid (i < la → ∃ g o, A = some ⟨g, o, none⟩ ∧ wr.cell? ⟨g, o + i, none⟩ = some (.int .i64 ((dg 10 a)[i]?.getD 0))) := Lib.hid (fun h => by
      obtain ⟨g, o, hA, hy⟩ := HXA.out (by omega)
      exact ⟨g, o, hA, (hnx.cell (cell_lt (hy i h))).trans (hy i h)⟩)
    have hcellB : Hid (i < lb → ∃ g o, A' = some ⟨g, o, none⟩ ∧ wr.cell? ⟨g, o + i, none⟩ = some (.int .i64 ((dg 10 b)[i]?.getD 0))) := Lib.hid (fun h => by
      obtain ⟨g, o, hA, hy⟩ := HXB.out (by omega)
      exact ⟨g, o, hA, (hnx.cell (cell_lt (hy i h))).trans (hy i h)⟩)
    have HB1 := Lib.hid (PB.out i c ys hI.out)
    by_cases hend : ¬ i < la ∧ ¬ i < lb ∧ c = 0
    · obtain ⟨h1, h2, rfl⟩ := hend
      have HR := Lib.hid (Rd.own hown hyl)
      have hfin := Lib.hid (PD.out i ys hI.out h1 h2)
      have h1' : ¬ (i : Int) < (la : Int) := by omega
      have h2' : ¬ (i : Int) < (lb : Int) := by omega
      clear hown
      go_wp2
      go_ret
      exact ⟨_, rfl, by rw [← hfin.out]; exact HR.out, hnx⟩
    · have HOWN := Lib.hid hown
      clear hown
      generalize (dg 10 a)[i]?.getD 0 = x at *
      generalize (dg 10 b)[i]?.getD 0 = y at *
      by_cases k1 : i < la
      · by_cases k2 : i < lb
        · skip
          obtain ⟨b1, o1, rfl, hcA⟩ := hcellA.out k1
          have k1' : (i : Int) < (la : Int) := by omega
          obtain ⟨b2, o2, rfl, hcB⟩ := hcellB.out k2
          have k2' : (i : Int) < (lb : Int) := by omega
          have hi2 : i ≤ 2000 := by omega
          have HN := Lib.hid (HS.out (c + x + y) ys hI.out hc0 (by omega) (by have := HLA.out; have := HLB.out; omega))
          clear hend
          go_wp2_with (at_builtin; refine app_int rfl (.tmp 46) (.tmp 49) rfl w.heap.size _ ys ((c + x + y) % 10) rfl HOWN.out rfl hyl hnx.size ?_; intro v' w3 hown3 hb3)
          go_roundg (2002 - (i + 1))
          case measure => omega
          case rel => exact ⟨i + 1, (c + x + y) / 10, ys ++ [(c + x + y) % 10], by go_num, by go_num, by omega, by omega, by omega, by omega, HN, hown3, hb3 _ _ hnx (Nat.le_refl _)⟩
        · skip
          obtain ⟨b1, o1, rfl, hcA⟩ := hcellA.out k1
          have k1' : (i : Int) < (la : Int) := by omega
          have k2' : ¬ (i : Int) < (lb : Int) := by omega
          have ey := OYi.out k2
          have hi2 : i ≤ 2000 := by omega
          have HN := Lib.hid (HS.out (c + x) ys hI.out hc0 (by omega) (by have := HLA.out; have := HLB.out; omega))
          clear ey
          clear hend
          go_wp2_with (at_builtin; refine app_int rfl (.tmp 46) (.tmp 49) rfl w.heap.size _ ys ((c + x) % 10) rfl HOWN.out rfl hyl hnx.size ?_; intro v' w3 hown3 hb3)
          go_roundg (2002 - (i + 1))
          case measure => omega
          case rel => exact ⟨i + 1, (c + x) / 10, ys ++ [(c + x) % 10], by go_num, by go_num, by omega, by omega, by omega, by omega, HN, hown3, hb3 _ _ hnx (Nat.le_refl _)⟩
      · by_cases k2 : i < lb
        · skip
          have k1' : ¬ (i : Int) < (la : Int) := by omega
          have ex := OXi.out k1
          obtain ⟨b2, o2, rfl, hcB⟩ := hcellB.out k2
          have k2' : (i : Int) < (lb : Int) := by omega
          have hi2 : i ≤ 2000 := by omega
          have HN := Lib.hid (HS.out (c + y) ys hI.out hc0 (by omega) (by have := HLA.out; have := HLB.out; omega))
          clear ex
          clear hend
          go_wp2_with (at_builtin; refine app_int rfl (.tmp 46) (.tmp 49) rfl w.heap.size _ ys ((c + y) % 10) rfl HOWN.out rfl hyl hnx.size ?_; intro v' w3 hown3 hb3)
          go_roundg (2002 - (i + 1))
          case measure => omega
          case rel => exact ⟨i + 1, (c + y) / 10, ys ++ [(c + y) % 10], by go_num, by go_num, by omega, by omega, by omega, by omega, HN, hown3, hb3 _ _ hnx (Nat.le_refl _)⟩
        · skip
          have k1' : ¬ (i : Int) < (la : Int) := by omega
          have ex := OXi.out k1
          have k2' : ¬ (i : Int) < (lb : Int) := by omega
          have ey := OYi.out k2
          have hcp : 0 < c := by omega
          have hi2 := HB1.out hcp
          have HN := Lib.hid (HS.out (c) ys hI.out hc0 (by omega) (by have := HLA.out; have := HLB.out; omega))
          clear ex
          clear ey
          clear hend
          go_wp2_with (at_builtin; refine app_int rfl (.tmp 46) (.tmp 49) rfl w.heap.size _ ys ((c) % 10) rfl HOWN.out rfl hyl hnx.size ?_; intro v' w3 hown3 hb3)
          go_roundg (2002 - (i + 1))
          case measure => omega
          case rel => exact ⟨i + 1, (c) / 10, ys ++ [(c) % 10], by go_num, by go_num, by omega, by omega, by omega, by omega, HN, hown3, hb3 _ _ hnx (Nat.le_refl _)⟩

end Go.Proofs.YtcpkejpdpohfeaaGreatDoor
