/- The walk of the reference implementation's 'divided', on its plain law. Conditions: sizes. -/
import Derived.Test.YtcpkejpdpohfeaaGreatDoorV9
namespace Go.Proofs.YtcpkejpdpohfeaaGreatDoor
open Go.RowKit Num
open Go.Shelf

theorem Rd.other {W : World} {v : Value} {xs : List Int} (h : Rd W v xs) {B : Nat} (hne : ∀ k, v.ownBlock = some k → B < k) (o : Nat) (u : Value) : Rd (W.setCell ⟨B, o, none⟩ u) v xs := by
  obtain ⟨A, c, rfl, hc, hm, hx⟩ := h
  refine ⟨A, c, rfl, hc, hm, fun h0 => ?_⟩
  obtain ⟨b, p, rfl, hy⟩ := hx h0
  have hb := hne b rfl
  refine ⟨b, p, rfl, fun j hj => ?_⟩
  have h1 := hy j hj
  have h2 : (W.setCell ⟨B, o, none⟩ u).heap[b]? = W.heap[b]? := (Turn.setCell (X := [B]) W B o u (by simp)).block b (cell_lt h1) (by simp; omega)
  exact (World.cell?_of_block (w := W) h2).trans h1

/-- The call returns quotient and rest. -/
def RetQR10 (w : World) (q r : Nat) (e : Ending) (w' : World) : Prop := ∃ v u, e = .returned (.tuple #[v, u]) ∧ Rd w' v (dg 10 q) ∧ Rd w' u (dg 10 r) ∧ Below w.heap.size w w'
theorem nv_head10 {x : Int} {r : Nat} (h : 0 ≤ x) : (nv 10 (x :: dg 10 r)).toNat = 10 * r + x.toNat := by
  rw [nv, nv_dg (by omega)]
  have : ((10 : Nat) : Int) = 10 := rfl
  omega
theorem dig_head10 {x : Int} {r : Nat} (h0 : 0 ≤ x) (h1 : x ≤ 9) : Dig 10 (x :: dg 10 r) := by
  intro y hy
  rcases List.mem_cons.1 hy with rfl | h
  · omega
  · exact dig_dg (by omega) r y h
theorem dg10_len_le {m n : Nat} (h : m ≤ n) : (dg 10 m).length ≤ (dg 10 n).length := by
  rcases Nat.lt_or_ge (dg 10 n).length (dg 10 m).length with k | k
  · have := lt_of_len (B := 10) (by omega) k
    omega
  · exact k

set_option maxHeartbeats 4000000 in
set_option maxRecDepth 100000 in
theorem divided10_any (a n : Nat) (hn0 : 0 < n) (v u : Value) (w : World) (hv : Rd w v (dg 10 a)) (hu : Rd w u (dg 10 n)) (ha : (dg 10 a).length ≤ 2000) (hb : (dg 10 n).length ≤ 1000) :
    Calls Tryz.prog 52 #[v, u] w (RetQR10 w (a / n) (a % n)) := by
  have HU := Lib.hid hu
  obtain ⟨A, c1, rfl, _, _, hxa⟩ := hv
  have HXA := Lib.hid hxa
  clear hxa hu
  have P0 := Lib.hid (TQ.start a n)
  have PR := Lib.hid (fun (j : Nat) qs r (h : TQ a n (j + 1) qs r) => h.round)
  have PS := Lib.hid (fun (j : Nat) qs r d (h : TR a n j qs r d) hj hn => h.step hj hn hn0)
  have PD := Lib.hid (fun (j : Nat) qs r d (h : TR a n j qs r d) hj hn => h.done hj hn)
  have PE := Lib.hid (fun qs r (h : TQ a n 0 qs r) => h.done)
  have PL := Lib.hid (fun j qs r (h : TQ a n j qs r) => h.1)
  have PL2 := Lib.hid (fun j qs r d (h : TR a n j qs r d) => h.1)
  have PX := Lib.hid (fun i => dig_at a i)
  have PN := Lib.hid (fun (r : Nat) (h : r ≤ 10 * n) => (show (dg 10 r).length ≤ 2000 by
    have h1 : (dg 10 r).length ≤ (dg 10 n).length + 1 := dg_len (by omega) _ r (by
      have h2 := dg_len_lt (B := 10) (by omega) n
      rw [Nat.pow_succ]
      omega)
    omega))
  have OR := Lib.hid (fun r v w hv hu => rorder_any r n v u w hv hu)
  have MI := Lib.hid (fun r (h : n ≤ r) v w hv hu hl => rminus_own r n h v u w hv hu hl)
  have hle0 : Hid (∀ j qs r, TQ a n j qs r → r < n) := Lib.hid (fun j qs r h => by rw [h.2.2.2.2]; exact Nat.mod_lt _ hn0)
  have hle1 : Hid (∀ j qs r d, TR a n j qs r d → r ≤ 10 * n) := Lib.hid (fun j qs r d h => by
    have h1 := h.2.2.2.2.2.2
    have h2 := Nat.mod_lt (top a (j + 1)) hn0
    have h3 := dig_at a j
    omega)
  have hcmp : Hid (∀ r, n ≤ r → (0 : Int) ≤ Lib.compareInt r n) := Lib.hid (fun r h => by unfold Lib.compareInt; rw [if_neg (by omega)]; split <;> omega)
  have hcmp2 : Hid (∀ r, ¬ n ≤ r → Lib.compareInt r n = -1) := Lib.hid (fun r h => cmp_lt (by omega))
  clear hb hn0
  generalize hla : (dg 10 a).length = la at *
  clear hla
  go_enter Tryz.func52, Tryz.ntmps52
  go_wp2_with (at_make; refine make_int2 rfl _ _ rfl la (la : Int) rfl rfl rfl (by omega) ?_; intro w2 hown hb2)
  rw [List.length_replicate] at hown
  have harr0 := Lib.hid (Arr.of_own hown)
  clear hown
  go_loopg [7, 8] la (fun kx s7 s8 wr => ∃ (i : Int) (qs : List Int) (r : Nat), s8 = .int .i64 i ∧ -1 ≤ i ∧ i < (la : Int) ∧ i + 1 ≤ kx ∧ Hid (TQ a n (i + 1).toNat qs r) ∧ Hid (Rd wr s7 (dg 10 r)) ∧ Hid (∀ k, s7.ownBlock = some k → w.heap.size < k) ∧ Hid (Arr wr w.heap.size qs) ∧ Below w.heap.size w wr)
  case atStart =>
    refine ⟨_, _, 0, rfl, by omega, by omega, by omega, Lib.hid ?_, Lib.hid ?_, Lib.hid ?_, harr0, hb2⟩
    · have e : ((la : Int) - 1 + 1).toNat = la := by omega
      rw [e]; exact P0.out
    · rw [dg_zero]; exact Rd.nil _
    · intro k hk; cases hk
  case round =>
    obtain ⟨i, qs, r, rfl, hi0, hi1, hkx, hQ, hrd, hob, harr, hnx⟩ := hrel
    have hlen := PL.out _ qs r hQ.out
    by_cases hg : 0 ≤ i
    · obtain ⟨j, rfl⟩ : ∃ j : Nat, i = j := ⟨i.toNat, by omega⟩
      have hj : j < la := by omega
      have hw1 : IntKind.i64.wrap ((j : Int) - 1) = (j : Int) - 1 := IntWalk.i64_in _ (by omega)
      have e1 : ((j : Int) + 1).toNat = j + 1 := by omega
      rw [e1] at hQ
      have HR0 := Lib.hid (PR.out j qs r hQ.out)
      have PSj := Lib.hid (PS.out j)
      have PDj := Lib.hid (PD.out j)
      have PLj := Lib.hid (PL2.out j)
      have hle1j := Lib.hid (hle1.out j)
      have hlr := PN.out r (by have := hle0.out _ _ _ hQ.out; omega)
      have hcA0 : ∃ g o, A = some ⟨g, o, none⟩ ∧ wr.cell? ⟨g, o + j, none⟩ = some (.int .i64 ((dg 10 a)[j]?.getD 0)) := by
        obtain ⟨g, o, hA, hy⟩ := HXA.out (by omega)
        exact ⟨g, o, hA, (hnx.cell (cell_lt (hy j hj))).trans (hy j hj)⟩
      obtain ⟨b1, o1, rfl, hcA⟩ := hcA0
      obtain ⟨hx0, hx9⟩ := PX.out j
      generalize (dg 10 a)[j]?.getD 0 = x at *
      have hHD := Lib.hid (dig_head10 (r := r) hx0 hx9)
      have hNV := Lib.hid (nv_head10 (r := r) hx0)
      have HLR : Hid ((dg 10 r).length ≤ 900000) := Lib.hid (by omega)
      clear e1 hlen hlr hQ
      go_wp2_with (first
        | (at_builtin; refine app_cons2 rfl (.tmp 23) (.tmp 24) rfl x _ (dg 10 r) rfl rfl hrd.out HLR.out ?_; intro v2 w3 hr2 hb3 hob2)
        | (go_at_call 37; (with_reducible refine (trim_own _ _ _ hr2 hHD.out).mono ?_); rintro e w4 ⟨v3, rfl, hr3, rfl, hob3⟩))
      rw [hNV.out] at hr3
      go_loopg [7] 10 (fun kx s7 wx => ∃ (r d : Nat) (o : List Int), 10 ≤ kx + d ∧ d ≤ 9 ∧ Hid (TR a n j o r d) ∧ Hid (Rd wx s7 (dg 10 r)) ∧ Hid (∀ k, s7.ownBlock = some k → w.heap.size < k) ∧ Hid (Arr wx w.heap.size o) ∧ Below w.heap.size w wx)
      case atStart => exact ⟨_, 0, qs, by omega, by omega, HR0, Lib.hid hr3, Lib.hid (fun k hk => by have h1 := hob2 k (hob3 ▸ hk); have := harr.out.lt; omega), Lib.hid (harr.out.below hb3), below_up hnx hb3⟩
      case round =>
        obtain ⟨r2, d, o, hkx2, hd9, hT, hrd2, hob4, harx, hnx2⟩ := hrel
        have hlo := PLj.out o r2 d hT.out
        have hlr2 := PN.out r2 (hle1j.out o r2 d hT.out)
        by_cases hge : n ≤ r2
        · have hc := hcmp.out r2 hge
          have O := Lib.hid (OR.out r2 _ wr hrd2.out (HU.out.below hnx2))
          have M := Lib.hid (fun w1 (hb : Below wr.heap.size wr w1) => MI.out r2 hge _ w1 (hrd2.out.below hb) (HU.out.below (below_up hnx2 hb)) hlr2)
          have ST := Lib.hid (PSj.out o r2 d hT.out hj hge)
          have hjo : j < o.length := by omega
          have hset := Lib.hid (fun w1 (hb : Below wr.heap.size wr w1) z => (harx.out.below hb).set hjo z)
          have hcell := harx.out.cell hjo
          rw [hT.out.2.2.2.1] at hcell
          have hfr := harx.out.frozen j
          have HCELL := Lib.hid hcell
          have HFR := Lib.hid hfr
          have hltq := Lib.hid harx.out.lt
          have hw2 : IntKind.i64.wrap ((d : Int) + 1) = (d : Int) + 1 := IntWalk.i64_in _ (by omega)
          generalize Lib.compareInt r2 n = c at *
          clear hlo hlr2 hcell hfr hge hjo
          go_wp2_with (first
            | (go_at_call 55; (with_reducible refine O.out.mono ?_); rintro e w5 ⟨rfl, hb5⟩)
            | (go_at_call 54; (with_reducible refine (M.out _ hb5).mono ?_); rintro e w6 ⟨v6, rfl, hr6, hb6, hob6⟩; have hcell6 := ((below_up hb5 hb6).cell (cell_lt HCELL.out)).trans HCELL.out; have hfr6 := ((below_up hb5 hb6).frozen (cell_lt HCELL.out)).trans HFR.out))
          go_roundg (10 - (d + 1))
          case measure => omega
          case rel => exact ⟨r2 - n, d + 1, _, by omega, ST.out.1, Lib.hid ST.out.2, Lib.hid (hr6.other (fun k hk => by have h1 := hob6 k hk; have h2 := hltq.out; have h3 := hb5.size; omega) _ _), Lib.hid (fun k hk => by have h1 := hob6 k hk; have h2 := hltq.out; have h3 := hb5.size; omega), Lib.hid (hset.out _ (below_up hb5 hb6) _), ((below_up hnx2 (below_up hb5 hb6)).setCell (p := ⟨w.heap.size, j, none⟩) (Nat.le_refl _) _)⟩
        · have hc : ¬ (0 : Int) ≤ Lib.compareInt r2 n := by rw [hcmp2.out r2 hge]; omega
          have O := Lib.hid (OR.out r2 _ wr hrd2.out (HU.out.below hnx2))
          have DN : Hid (TQ a n ((j : Int) - 1 + 1).toNat o r2) := Lib.hid (by
            rw [show ((j : Int) - 1 + 1).toNat = j by omega]
            exact PDj.out o r2 d hT.out hj (by omega))
          generalize Lib.compareInt r2 n = c at *
          clear hlo hlr2 hge
          go_wp2_with (go_at_call 55; (with_reducible refine O.out.mono ?_); rintro e w5 ⟨rfl, hb5⟩)
          go_roundg j
          case measure => omega
          case rel => exact ⟨_, o, r2, by go_num, by omega, by omega, by omega, DN, Lib.hid (hrd2.out.below hb5), hob4, Lib.hid (harx.out.below hb5), below_up hnx2 hb5⟩
    · obtain rfl : i = -1 := by omega
      have HQ := Lib.hid (PE.out qs r hQ.out)
      have HR := Lib.hid (harr.out.rd hlen (by omega))
      have TM := Lib.hid (fun HR => trim_own (.slice (some ⟨w.heap.size, 0, none⟩) la la) qs wr HR hQ.out.2.1)
      clear hlen
      go_wp2_with (go_at_call 37; (with_reducible refine (TM.out HR.out).mono ?_); rintro e w1 ⟨v1, rfl, hr1, rfl, -⟩)
      go_ret2
      exact ⟨_, _, rfl, by rw [← HQ.out.1]; exact hr1, by rw [← HQ.out.2]; exact hrd.out, hnx⟩

end Go.Proofs.YtcpkejpdpohfeaaGreatDoor
