/- The walk of the reference implementation's 'minus'. Conditions: sizes; the first number is not less. -/
import Derived.Test.YtcpkejpdpohfeaaGreatDoorV4
namespace Go.Proofs.YtcpkejpdpohfeaaGreatDoor
open Go.RowKit Num
open Go.Shelf

def MI (a b i : Nat) (c : Int) (ys : List Int) : Prop := ys.length = i ∧ Dig 10 ys ∧ nv 10 ys - ((10 : Nat) : Int) ^ i * c = nv 10 ((dg 10 a).take i) - nv 10 ((dg 10 b).take i)
theorem MI.start (a b : Nat) : MI a b 0 0 [] := ⟨rfl, Dig.nil _, by simp [nv]⟩
theorem MI.step {a b i : Nat} {c x y n d : Int} {ys : List Int} (h : MI a b i c ys) (hx : x = (dg 10 a)[i]?.getD 0) (hy : y = (dg 10 b)[i]?.getD 0) (hn : n = x - c - y + 10 * d) (h0 : 0 ≤ n) (h1 : n ≤ 9) : MI a b (i + 1) d (ys ++ [n]) := by
  obtain ⟨k1, k2, k3⟩ := h
  refine ⟨by rw [List.length_append, k1]; rfl, k2.append (Dig.one h0 (by omega)), ?_⟩
  rw [nv_snoc, nv_take_succ, nv_take_succ, ← hx, ← hy, k1, Int.pow_succ]
  have e : ((10 : Nat) : Int) ^ i * n = ((10 : Nat) : Int) ^ i * x - ((10 : Nat) : Int) ^ i * c - ((10 : Nat) : Int) ^ i * y + ((10 : Nat) : Int) ^ i * ((10 : Nat) : Int) * d := by
    rw [hn, Int.mul_add, Int.mul_sub, Int.mul_sub, Int.mul_assoc]
    rfl
  omega
theorem MI.done {a b : Nat} {c : Int} {ys : List Int} (h : MI a b (dg 10 a).length c ys) (hab : b ≤ a) (hc : 0 ≤ c) (hc1 : c ≤ 1) : dg 10 (nv 10 ys).toNat = dg 10 (a - b) := by
  obtain ⟨k1, k2, k3⟩ := h
  have hl : ¬ (dg 10 a).length < (dg 10 b).length := fun k => by
    have := lt_of_len (B := 10) (by omega) k
    omega
  rw [nv_all (by omega), nv_all hl] at k3
  have p := nv_lt k2
  rw [k1] at p
  have hc0 : c = 0 := by
    rcases (show c = 0 ∨ c = 1 by omega) with e | e
    · exact e
    · subst e; rw [Int.mul_one] at k3; omega
  subst hc0
  rw [Int.mul_zero] at k3
  congr 1
  omega

/-- The same, and the digits lie in a new block. -/
def RetT10b (w : World) (n : Nat) (e : Ending) (w' : World) : Prop := ∃ v, e = .returned v ∧ Rd w' v (dg 10 n) ∧ Below w.heap.size w w' ∧ ∀ k, v.ownBlock = some k → w.heap.size ≤ k

set_option maxHeartbeats 4000000 in
set_option maxRecDepth 100000 in
theorem rminus_own (a b : Nat) (hab : b ≤ a) (v u : Value) (w : World) (hv : Rd w v (dg 10 a)) (hu : Rd w u (dg 10 b)) (ha : (dg 10 a).length ≤ 2000) :
    Calls Tryz.prog 54 #[v, u] w (RetT10b w (a - b)) := by
  obtain ⟨A, c1, rfl, _, _, hxa⟩ := hv
  obtain ⟨A', c2, rfl, _, _, hxb⟩ := hu
  have HXA := Lib.hid hxa
  have HXB := Lib.hid hxb
  clear hxa hxb
  have PS := Lib.hid (fun (i : Nat) (c n d : Int) ys (h : MI a b i c ys) hn h0 h1 => h.step (n := n) (d := d) rfl rfl hn h0 h1)
  have PD := Lib.hid (fun (c : Int) ys (h : MI a b (dg 10 a).length c ys) h1 h2 => h.done hab h1 h2)
  have PX := Lib.hid (fun i => dig_at a i)
  have PY := Lib.hid (fun i => dig_at b i)
  have OY := Lib.hid (fun i (h : ¬ i < (dg 10 b).length) => dig_out h)
  clear hab
  generalize hla : (dg 10 a).length = la at *
  generalize hlb : (dg 10 b).length = lb at *
  have HLA := Lib.hid hla
  have HLB := Lib.hid hlb
  clear hla hlb
  go_enter Tryz.func54, Tryz.ntmps54
  go_wp2
  go_loopg [5, 6, 7, 8] la (fun kx s5 s6 s7 s8 wr => ∃ (i : Nat) (c : Int) (ys : List Int), s6 = .int .i64 c ∧ s7 = .int .i64 i ∧ i ≤ la ∧ la ≤ kx + i ∧ 0 ≤ c ∧ c ≤ 1 ∧ Hid (MI a b i c ys) ∧ wr.ownsRow w.heap.size 3 1 s5 ys.length (ys.map (Value.int .i64)) ∧ Below w.heap.size w wr)
  case atStart => exact ⟨0, 0, [], rfl, rfl, by omega, by omega, by omega, by omega, Lib.hid (MI.start a b), World.ownsRow_nil _ _ _ _, Below.refl _ _⟩
  case round =>
    obtain ⟨i, c, ys, rfl, rfl, hi, hkx, hc0, hc1, hI, hown, hnx⟩ := hrel
    have hyl : ys.length ≤ 1000000 := by rw [hI.out.1]; omega
    have hw1 : IntKind.i64.wrap ((i : Int) + 1) = (i : Int) + 1 := IntWalk.i64_in _ (by omega)
    by_cases hend : ¬ i < la
    · obtain rfl : i = la := by omega
      have HR := Lib.hid (Rd.own hown hyl)
      have hfin := Lib.hid (PD.out c ys hI.out hc0 hc1)
      have TR := Lib.hid (trim_own _ ys _ HR.out hI.out.2.1)
      have h1' : ¬ (i : Int) < (i : Int) := by omega
      have hob := Lib.hid (fun k hk => (hown.lt k hk).1)
      clear hown
      go_wp2_with (go_at_call 37; (with_reducible refine TR.out.mono ?_); rintro e w1 ⟨v1, rfl, hr1, rfl, hv1⟩)
      go_ret
      exact ⟨_, rfl, by rw [← hfin.out]; exact hr1, hnx, fun k hk => hob.out k (hv1 ▸ hk)⟩
    · obtain ⟨hx0, hx9⟩ := PX.out i
      obtain ⟨hy0, hy9⟩ := PY.out i
      have HS := Lib.hid (PS.out i c)
      have OYi := Lib.hid (OY.out i)
      have hcellA : Hid (i < la → ∃ g o, A = some ⟨g, o, none⟩ ∧ wr.cell? ⟨g, o + i, none⟩ = some (.int .i64 ((dg 10 a)[i]?.getD 0))) := Lib.hid (fun h => by
        obtain ⟨g, o, hA, hy⟩ := HXA.out (by omega)
        exact ⟨g, o, hA, (hnx.cell (cell_lt (hy i h))).trans (hy i h)⟩)
      have hcellB : Hid (i < lb → ∃ g o, A' = some ⟨g, o, none⟩ ∧ wr.cell? ⟨g, o + i, none⟩ = some (.int .i64 ((dg 10 b)[i]?.getD 0))) := Lib.hid (fun h => by
        obtain ⟨g, o, hA, hy⟩ := HXB.out (by omega)
        exact ⟨g, o, hA, (hnx.cell (cell_lt (hy i h))).trans (hy i h)⟩)
      have HOWN := Lib.hid hown
      clear hown
      generalize (dg 10 a)[i]?.getD 0 = x at *
      generalize (dg 10 b)[i]?.getD 0 = y at *
      have k1 : i < la := by omega
      have k1' : (i : Int) < (la : Int) := by omega
      obtain ⟨b1, o1, rfl, hcA⟩ := hcellA.out k1
      clear hend
      by_cases k2 : i < lb
      · obtain ⟨b2, o2, rfl, hcB⟩ := hcellB.out k2
        have k2' : (i : Int) < (lb : Int) := by omega
        by_cases hneg : x - c - y < 0
        · skip
          have hng : x - c - y < 0 := by omega
          have HN := Lib.hid (HS.out (x - c - y + 10) 1 ys hI.out (by omega) (by omega) (by omega))
          go_wp2_with (at_builtin; refine app_int rfl (.tmp 35) (.tmp 37) rfl w.heap.size _ ys (x - c - y + 10) rfl HOWN.out rfl hyl hnx.size ?_; intro v' w3 hown3 hb3)
          go_roundg (la - (i + 1))
          case measure => omega
          case rel => exact ⟨i + 1, 1, ys ++ [x - c - y + 10], by go_num, by go_num, by omega, by omega, by omega, by omega, HN, hown3, hb3 _ _ hnx (Nat.le_refl _)⟩
        · skip
          have hng : ¬ x - c - y < 0 := by omega
          have HN := Lib.hid (HS.out (x - c - y) 0 ys hI.out (by omega) (by omega) (by omega))
          go_wp2_with (at_builtin; refine app_int rfl (.tmp 35) (.tmp 37) rfl w.heap.size _ ys (x - c - y) rfl HOWN.out rfl hyl hnx.size ?_; intro v' w3 hown3 hb3)
          go_roundg (la - (i + 1))
          case measure => omega
          case rel => exact ⟨i + 1, 0, ys ++ [x - c - y], by go_num, by go_num, by omega, by omega, by omega, by omega, HN, hown3, hb3 _ _ hnx (Nat.le_refl _)⟩
      · have k2' : ¬ (i : Int) < (lb : Int) := by omega
        have ey := OYi.out k2
        by_cases hneg : x - c < 0
        · skip
          have hng : x - c < 0 := by omega
          have HN := Lib.hid (HS.out (x - c + 10) 1 ys hI.out (by omega) (by omega) (by omega))
          clear ey
          go_wp2_with (at_builtin; refine app_int rfl (.tmp 35) (.tmp 37) rfl w.heap.size _ ys (x - c + 10) rfl HOWN.out rfl hyl hnx.size ?_; intro v' w3 hown3 hb3)
          go_roundg (la - (i + 1))
          case measure => omega
          case rel => exact ⟨i + 1, 1, ys ++ [x - c + 10], by go_num, by go_num, by omega, by omega, by omega, by omega, HN, hown3, hb3 _ _ hnx (Nat.le_refl _)⟩
        · skip
          have hng : ¬ x - c < 0 := by omega
          have HN := Lib.hid (HS.out (x - c) 0 ys hI.out (by omega) (by omega) (by omega))
          clear ey
          go_wp2_with (at_builtin; refine app_int rfl (.tmp 35) (.tmp 37) rfl w.heap.size _ ys (x - c) rfl HOWN.out rfl hyl hnx.size ?_; intro v' w3 hown3 hb3)
          go_roundg (la - (i + 1))
          case measure => omega
          case rel => exact ⟨i + 1, 0, ys ++ [x - c], by go_num, by go_num, by omega, by omega, by omega, by omega, HN, hown3, hb3 _ _ hnx (Nat.le_refl _)⟩

theorem rminus_any (a b : Nat) (hab : b ≤ a) (v u : Value) (w : World) (hv : Rd w v (dg 10 a)) (hu : Rd w u (dg 10 b)) (ha : (dg 10 a).length ≤ 2000) :
    Calls Tryz.prog 54 #[v, u] w (RetT10 w (a - b)) :=
  (rminus_own a b hab v u w hv hu ha).mono fun _ _ ⟨v, h1, h2, h3, _⟩ => ⟨v, h1, h2, h3⟩

end Go.Proofs.YtcpkejpdpohfeaaGreatDoor
