/- The walks of the reference implementation's 'trimmed' and 'Root'. Conditions: sizes. -/
import Derived.Test.YtcpkejpdpohfeaaGreatDoorV13
namespace Go.Proofs.YtcpkejpdpohfeaaGreatDoor
open Go.RowKit Num
open Go.Shelf

/-- 'append([]int{}, xs...)'. -/
theorem app_copy2 {W : World} {ops : Array Oper} {rest : List Oper} {o : Oper} {a : Act} {Q : Exit → Act → World → Prop} (hgd : o.guard = none) (s x : Operand)
    (ho : o.op = .call { callee := .builtin .append, args := #[s, x], argTypes := #[44, 44] }) (v : Value) (ys : List Int)
    (hs : a.eval s = .slice (some ⟨W.heap.size, 0, none⟩) 0 0) (hx : a.eval x = v) (hv : Rd W v ys) (hl : ys.length ≤ 900000)
    (h : ∀ v' w', Rd w' v' ys → Below W.heap.size W w' → wpList Tryz.prog ops Q rest (a.put o.dst v') w') :
    wpList Tryz.prog ops Q (o :: rest) a (W.alloc (.cells #[] 3)) := by
  obtain ⟨i0, hi, hz0, hz1, hz2⟩ := info_parts Tryz.info3
  have hown : (W.alloc (.cells #[] 3)).ownsRow W.heap.size 3 1 (.slice (some ⟨W.heap.size, 0, none⟩) 0 0) 0 [] :=
    World.ownsRow_lit W #[] 0 (Nat.le_refl _) (by unfold maxLen; omega) rfl
  have fin : ∀ v' w', w'.ownsRow W.heap.size 3 1 v' ys.length (ys.map (Value.int .i64)) → Below W.heap.size W w' → wpList Tryz.prog ops Q rest (a.put o.dst v') w' :=
    fun v' w' h1 h2 => h v' w' (Rd.own h1 (by omega)) h2
  obtain ⟨A, c, rfl, hc, hm, hy⟩ := hv
  cases A with
  | none =>
    obtain rfl := hc.2 rfl
    have hn : ys = [] := by
      rcases Nat.eq_zero_or_pos ys.length with h0 | h0
      · exact List.eq_nil_of_length_eq_zero h0
      · obtain ⟨b, o, h1, _⟩ := hy h0; cases h1
    subst hn
    refine wpList_plain hgd fun K hK' => ?_
    have hrun := run_append_owned_none (P := Tryz.prog) (w := W.alloc (.cells #[] 3)) W.heap.size 44 o.type 3 i0 1 Tryz.underlying44 hi _ 0 _ hown
    unfold Oper.wp
    simp [execOp, ho, resolve, invoke, builtin, hs, hx, hrun, Result.andThen]
    exact hK' _ _ (fin _ _ hown (below1 _ _))
  | some ad =>
    refine wpList_append_own _ hgd s x 44 ho W.heap.size 3 i0 (.int .i64 0) 1 8 Tryz.underlying44 hi hz0 hz1 hz2 rfl (by decide) _ 0 [] hs hown ad ys.length c (ys.map (Value.int .i64)) hx (by simp) ?_ ?_ ?_ ?_ ?_ ?_
    · intro j u hj
      rw [List.getElem?_map] at hj
      cases hq : ys[j]? with
      | none => rw [hq] at hj; cases hj
      | some z =>
        rw [hq] at hj
        have hjl : j < ys.length := (List.getElem?_eq_some_iff.1 hq).1
        obtain ⟨b, o, h1, h2⟩ := hy (by omega)
        cases h1
        have h3 := cell_up (.cells #[] 3) (h2 j hjl)
        rw [hq] at h3
        simp only [Option.map_some, Option.some.injEq] at hj
        subst hj
        rw [addr_add]
        simpa using h3
    · intro u hu
      obtain ⟨z, _, rfl⟩ := List.mem_map.1 hu
      rfl
    · unfold maxLen; omega
    · omega
    · simp
    · intro v' w' hown' hg _
      refine fin v' w' (by rw [Nat.zero_add, List.nil_append] at hown'; exact hown') ?_
      exact (below1 _ _).grown hg (by simp) (fun k hk => by cases hk; exact Nat.le_refl _)

set_option maxHeartbeats 1000000 in
theorem trimmed10_any (v : Value) (xs : List Int) (w : World) (hR : Rd w v xs) (hD : Dig 10 xs) (hl : xs.length ≤ 900000) :
    Calls Tryz.prog 56 #[v] w (RetT10 w (nv 10 xs).toNat) := by
  have HR := Lib.hid hR
  have HD := Lib.hid hD
  clear hR hD
  go_enter Tryz.func56, Tryz.ntmps56
  go_wp2_with (first
    | (at_builtin; refine app_copy2 rfl (.tmp 3) (.tmp 4) rfl _ xs rfl rfl HR.out hl ?_; intro v2 w2 hr2 hb2)
    | (go_at_call 37; (with_reducible refine (trim_own _ _ _ hr2 HD.out).mono ?_); rintro e w4 ⟨v3, rfl, hr3, rfl, -⟩))
  go_ret
  exact ⟨_, rfl, hr3, hb2⟩

/-! ### The plain law -/
def RO (n K j : Nat) (o : List Int) : Prop := o.length = K ∧ Dig 10 o ∧ (∀ t, t < j → nth o t = 0) ∧ ∃ V : Nat, nv 10 o = V ∧ V * V ≤ n ∧ n < (V + 10 ^ j) * (V + 10 ^ j)
def RI (n K i B d : Nat) (o : List Int) : Prop := o.length = K ∧ Dig 10 o ∧ (∀ t, t < i → nth o t = 0) ∧ nth o i = d ∧ d ≤ 9 ∧ nv 10 o = ((B + 10 ^ i * d : Nat) : Int) ∧ B * B ≤ n ∧ n < (B + 10 ^ i * (d + 1)) * (B + 10 ^ i * (d + 1))
theorem RO.start {n K : Nat} (h : n < 10 ^ (K + K)) : RO n K K (List.replicate K 0) := by
  have hr : ∀ n, nv 10 (List.replicate n 0) = 0 := fun n => by
    induction n with
    | zero => rfl
    | succ n ih => rw [List.replicate_succ, nv, ih]; rfl
  refine ⟨List.length_replicate, fun y hy => ?_, fun t ht => ?_, 0, by rw [hr]; rfl, by omega, by rw [Nat.zero_add, ← Nat.pow_add]; exact h⟩
  · rw [List.eq_of_mem_replicate hy]; omega
  · unfold nth; rw [List.getElem?_replicate]; simp [ht]
theorem RO.round {n K i : Nat} {o : List Int} (h : RO n K (i + 1) o) (hi : i < K) : ∃ B, RI n K i B 9 (o.set i 9) := by
  obtain ⟨h1, h2, h3, V, h4, h5, h6⟩ := h
  refine ⟨V, by rw [List.length_set, h1], dig_set h2 _ (by omega) (by omega), fun t ht => ?_, ?_, by omega, ?_, h5, by rw [Nat.pow_succ] at h6; exact h6⟩
  · unfold nth; rw [List.getElem?_set_ne (by omega)]; exact h3 t (by omega)
  · unfold nth; rw [List.getElem?_set_self (by omega)]; rfl
  · rw [nv_set _ _ _ (by omega), h3 i (by omega), h4, Int.natCast_add, Int.natCast_mul, Int.natCast_pow]; rfl
theorem RI.step {n K i B d : Nat} {o : List Int} (h : RI n K i B (d + 1) o) (hi : i < K) (hn : n < (B + 10 ^ i * (d + 1)) * (B + 10 ^ i * (d + 1))) : RI n K i B d (o.set i d) := by
  obtain ⟨h1, h2, h3, h4, h5, h6, h7, h8⟩ := h
  refine ⟨by rw [List.length_set, h1], dig_set h2 _ (by omega) (by omega), fun t ht => ?_, ?_, by omega, ?_, h7, hn⟩
  · unfold nth; rw [List.getElem?_set_ne (by omega)]; exact h3 t ht
  · unfold nth; rw [List.getElem?_set_self (by omega)]; rfl
  · have e : ((10 : Nat) : Int) ^ i * ((d : Int) - ((d + 1 : Nat) : Int)) = -((10 : Nat) : Int) ^ i := by
      rw [show (d : Int) - ((d + 1 : Nat) : Int) = -1 by omega, Int.mul_neg, Int.mul_one]
    have e2 : B + 10 ^ i * (d + 1) = B + 10 ^ i * d + 10 ^ i := by rw [Nat.mul_add, Nat.mul_one, Nat.add_assoc]
    rw [nv_set _ _ _ (by omega), h4, e, h6, e2, Int.natCast_add (B + 10 ^ i * d), Int.natCast_pow]
    omega
theorem RI.done {n K i B d : Nat} {o : List Int} (h : RI n K i B d o) (hn : d = 0 ∨ (B + 10 ^ i * d) * (B + 10 ^ i * d) ≤ n) : RO n K i o := by
  obtain ⟨h1, h2, h3, h4, h5, h6, h7, h8⟩ := h
  have e2 : B + 10 ^ i * (d + 1) = B + 10 ^ i * d + 10 ^ i := by rw [Nat.mul_add, Nat.mul_one, Nat.add_assoc]
  rw [e2] at h8
  refine ⟨h1, h2, h3, B + 10 ^ i * d, h6, ?_, h8⟩
  rcases hn with rfl | hn
  · rw [Nat.mul_zero, Nat.add_zero]; exact h7
  · exact hn
theorem RO.done {n K : Nat} {o : List Int} (h : RO n K 0 o) : isq n (nv 10 o).toNat := by
  obtain ⟨h1, h2, h3, V, h4, h5, h6⟩ := h
  rw [h4, Int.toNat_natCast]
  exact ⟨h5, h6⟩

theorem RI.val {n K i B d : Nat} {o : List Int} (h : RI n K i B d o) : (nv 10 o).toNat = B + 10 ^ i * d := by rw [h.2.2.2.2.2.1, Int.toNat_natCast]
theorem RI.small {n K i B d : Nat} {o : List Int} (h : RI n K i B d o) : (dg 10 (B + 10 ^ i * d)).length ≤ K := by
  refine dg_len (by omega) K _ ?_
  have := nv_lt h.2.1
  rw [h.1, h.2.2.2.2.2.1, ← Int.natCast_pow] at this
  omega

set_option maxHeartbeats 4000000 in
set_option maxRecDepth 100000 in
theorem rroot_any (s : ByteArray) (z : Int) (hz : Is s z) (h0 : 0 ≤ z) (w : World) : Calls Tryz.prog 30 #[.string s] w (RetRoot w z.toNat) := by
  have V1 := Lib.hid (fun w => rvalid_some hz w)
  have D1 := Lib.hid (fun w => digits_any (s := s) hz w)
  obtain ⟨t, hts, ht, hs0, hc⟩ := behind hz
  have h45 : (((s[0]'hs0).toNat : Int) == 45) = false := by
    rcases hc with ⟨k, _⟩ | ⟨_, k, _⟩
    · omega
    · exact k
  have hs0' : (0 : Int) < (s.size : Int) := by omega
  have hsm := hz.small
  rw [show decide (z < 0) = false by simp; omega, show z.natAbs = z.toNat by omega] at D1
  have hl := dg_len (B := 10) (by omega) 200 z.toNat (by unfold sm at hsm; omega)
  generalize z.toNat = n at *
  have hst : Hid (RO n (((dg 10 n).length + 1) / 2) (((dg 10 n).length + 1) / 2) (List.replicate (((dg 10 n).length + 1) / 2) 0)) := Lib.hid (RO.start (by
    have h1 := dg_len_lt (B := 10) (by omega) n
    have h2 : 10 ^ (dg 10 n).length ≤ 10 ^ (((dg 10 n).length + 1) / 2 + ((dg 10 n).length + 1) / 2) := Nat.pow_le_pow_right (by omega) (by omega)
    omega))
  have hK : ((dg 10 n).length + 1) / 2 ≤ 100 := by omega
  have hKc : (((dg 10 n).length : Int) + 1) / 2 = ((((dg 10 n).length + 1) / 2 : Nat) : Int) := by omega
  clear ht hc hts hz h0 hsm
  generalize hKe : ((dg 10 n).length + 1) / 2 = K at *
  clear hKe
  go_enter Tryz.func30, Tryz.ntmps30
  go_wp2_with (first
    | (go_at_call 33; (with_reducible refine (V1.out _).mono ?_); rintro e w1 ⟨rfl, hb1⟩)
    | (go_at_call 48; (with_reducible refine (D1.out _).mono ?_); rintro e w2 ⟨v2, rfl, hr2, hb2⟩; obtain ⟨A2, c2, rfl, -⟩ := id hr2)
    | (at_make; refine make_int2 rfl _ _ rfl K ((((dg 10 n).length : Int) + 1) / 2) hKc rfl rfl (by omega) ?_; intro w3 hown hb3))
  rw [List.length_replicate] at hown
  have harr0 := Lib.hid (Arr.of_own hown)
  have HR2 := Lib.hid hr2
  clear hown hr2 hKc h45 hs0'
  go_loopg [7] K (fun kx s7 wr => ∃ (i : Int) (o : List Int), s7 = .int .i64 i ∧ -1 ≤ i ∧ i < (K : Int) ∧ i + 1 ≤ kx ∧ Hid (RO n K (i + 1).toNat o) ∧ Hid (Arr wr w2.heap.size o) ∧ Below w2.heap.size w2 wr)
  case atStart =>
    refine ⟨_, _, rfl, by omega, by omega, by omega, Lib.hid ?_, harr0, hb3⟩
    have e : ((K : Int) - 1 + 1).toNat = K := by omega
    rw [e]; exact hst.out
  case round =>
    obtain ⟨i, o, rfl, hi0, hi1, hkx, hO, harr, hnx⟩ := hrel
    have hlen := hO.out.1
    by_cases hg : 0 ≤ i
    · obtain ⟨j, rfl⟩ : ∃ j : Nat, i = j := ⟨i.toNat, by omega⟩
      have hj : j < K := by omega
      have hw1 : IntKind.i64.wrap ((j : Int) - 1) = (j : Int) - 1 := IntWalk.i64_in _ (by omega)
      have e1 : ((j : Int) + 1).toNat = j + 1 := by omega
      rw [e1] at hO
      obtain ⟨B, hRB⟩ := hO.out.round hj
      have HRB := Lib.hid hRB
      have hjo : j < o.length := by omega
      have hcell := harr.out.cell hjo
      have hfr := harr.out.frozen j
      have hset := Lib.hid (harr.out.set hjo 9)
      clear e1 hlen hO hRB hjo
      go_wp2
      go_loopg [] 9 (fun kx wx => ∃ (d : Nat) (o : List Int), d ≤ kx ∧ d ≤ 9 ∧ Hid (RI n K j B d o) ∧ Hid (Arr wx w2.heap.size o) ∧ Below w2.heap.size w2 wx)
      case atStart => exact ⟨9, _, Nat.le_refl _, by omega, HRB, hset, hnx.setCell (p := ⟨w2.heap.size, j, none⟩) (Nat.le_refl _) _⟩
      case round =>
        obtain ⟨d, o2, hkd, hd9, hI, harx, hnx2⟩ := hrel
        have hlo := hI.out.1
        have hjo : j < o2.length := by omega
        have hcell := harx.out.cell hjo
        rw [hI.out.2.2.2.1] at hcell
        have hfr := harx.out.frozen j
        have hset := Lib.hid (fun w1 (hb : Below wr.heap.size wr w1) z => (harx.out.below hb).set hjo z)
        have HCELL := Lib.hid hcell
        have HFR := Lib.hid hfr
        have DN := Lib.hid (fun h => hI.out.done h)
        rcases Nat.eq_zero_or_pos d with rfl | hdp
        · have hnew : Hid (RO n K ((j : Int) - 1 + 1).toNat o2) := Lib.hid (by
            rw [show ((j : Int) - 1 + 1).toNat = j by omega]
            exact DN.out (.inl rfl))
          have hz : ¬ (0 : Int) < ((0 : Nat) : Int) := by omega
          clear hlo hjo
          go_wp2
          go_roundg j
          case measure => omega
          case rel => exact ⟨_, o2, by go_num, by omega, by omega, by omega, hnew, harx, hnx2⟩
        · have hdp' : (0 : Int) < (d : Int) := by omega
          have hRd := Lib.hid (harx.out.rd hlo (by omega))
          have hv := Lib.hid hI.out.val
          have TMD := Lib.hid (fun w1 (hb : Below wr.heap.size wr w1) => trimmed10_any (.slice (some ⟨w2.heap.size, 0, none⟩) K K) o2 w1 (hRd.out.below hb) hI.out.2.1 (by omega))
          rw [hv.out] at TMD
          have hsml := hI.out.small
          have HSM := Lib.hid (show (dg 10 (B + 10 ^ j * d)).length ≤ 2000 by omega)
          have HU := Lib.hid (fun w1 (hb : Below wr.heap.size wr w1) => HR2.out.below (below_up hnx2 hb))
          have hST : Hid (∀ e : Nat, d = e + 1 → n < (B + 10 ^ j * d) * (B + 10 ^ j * d) → RI n K j B e (o2.set j e)) := Lib.hid (fun e he hn => by
            subst he
            exact hI.out.step hj hn)
          have hDN2 : Hid ((B + 10 ^ j * d) * (B + 10 ^ j * d) ≤ n → RO n K j o2) := Lib.hid (fun h => DN.out (.inr h))
          have hbx : Below wr.heap.size wr wr := Below.refl _ _
          clear hlo hjo hsml
          generalize B + 10 ^ j * d = V at *
          by_cases hgt : n < V * V
          · have hc : (0 : Int) < Lib.compareInt ((V * V : Nat) : Int) (n : Int) := by rw [cmp_gt (by omega)]; omega
            obtain ⟨e, rfl⟩ : ∃ e, d = e + 1 := ⟨d - 1, by omega⟩
            have hnew := Lib.hid (hST.out e rfl hgt)
            have ORD := Lib.hid (fun v u w hv hu => rorder_any (V * V) n v u w hv hu)
            generalize Lib.compareInt ((V * V : Nat) : Int) (n : Int) = c at *
            have hw2 : IntKind.i64.wrap (((e + 1 : Nat) : Int) - 1) = (e : Int) := by rw [show ((e + 1 : Nat) : Int) - 1 = (e : Int) by omega]; exact IntWalk.i64_in _ (by omega)
            clear hgt
            go_wp2_with (first
              | (go_at_call 56; (with_reducible refine (TMD.out _ hbx).mono ?_); rintro e5 w5 ⟨v5, rfl, hr5, hb5⟩; replace hbx := below_up hbx hb5; (try (have hrO := hr6.below hb5)); have hr6 := hr5)
              | (go_at_call 51; (with_reducible refine (rtimes_any V V _ _ _ hrO hr6 HSM.out HSM.out).mono ?_); rintro e7 w7 ⟨v7, rfl, hr7, hb7⟩; replace hbx := below_up hbx hb7)
              | (go_at_call 55; (with_reducible refine (ORD.out _ _ _ hr7 (HU.out _ hbx)).mono ?_); rintro e8 w8 ⟨rfl, hb8⟩; replace hbx := below_up hbx hb8; have hcell8 := (hbx.cell (cell_lt HCELL.out)).trans HCELL.out; have hfr8 := (hbx.frozen (cell_lt HCELL.out)).trans HFR.out))
            go_roundg e
            case measure => omega
            case rel => exact ⟨e, _, Nat.le_refl _, by omega, hnew, Lib.hid (hset.out _ hbx _), ((below_up hnx2 hbx).setCell (p := ⟨w2.heap.size, j, none⟩) (Nat.le_refl _) _)⟩
          · have hc : ¬ (0 : Int) < Lib.compareInt ((V * V : Nat) : Int) (n : Int) := by
              unfold Lib.compareInt
              split
              · omega
              · rw [if_neg (by omega)]; omega
            have hnew : Hid (RO n K ((j : Int) - 1 + 1).toNat o2) := Lib.hid (by
              rw [show ((j : Int) - 1 + 1).toNat = j by omega]
              exact hDN2.out (by omega))
            have ORD := Lib.hid (fun v u w hv hu => rorder_any (V * V) n v u w hv hu)
            generalize Lib.compareInt ((V * V : Nat) : Int) (n : Int) = c at *
            clear hgt
            go_wp2_with (first
              | (go_at_call 56; (with_reducible refine (TMD.out _ hbx).mono ?_); rintro e5 w5 ⟨v5, rfl, hr5, hb5⟩; replace hbx := below_up hbx hb5; (try (have hrO := hr6.below hb5)); have hr6 := hr5)
              | (go_at_call 51; (with_reducible refine (rtimes_any V V _ _ _ hrO hr6 HSM.out HSM.out).mono ?_); rintro e7 w7 ⟨v7, rfl, hr7, hb7⟩; replace hbx := below_up hbx hb7)
              | (go_at_call 55; (with_reducible refine (ORD.out _ _ _ hr7 (HU.out _ hbx)).mono ?_); rintro e8 w8 ⟨rfl, hb8⟩; replace hbx := below_up hbx hb8))
            go_roundg j
            case measure => omega
            case rel => exact ⟨_, o2, by go_num, by omega, by omega, by omega, hnew, Lib.hid (harx.out.below hbx), below_up hnx2 hbx⟩
    · obtain rfl : i = -1 := by omega
      have HQ := Lib.hid hO.out.done
      have HR := Lib.hid (harr.out.rd hlen (by omega))
      have TM := Lib.hid (fun HR => trim_own (.slice (some ⟨w2.heap.size, 0, none⟩) K K) o wr HR hO.out.2.1)
      have hsml : Hid ((nv 10 o).toNat < 10 ^ 200) := Lib.hid (by
        have h1 := nv_lt hO.out.2.1
        have h2 := nv_nonneg hO.out.2.1
        rw [hlen, ← Int.natCast_pow] at h1
        have h3 : 10 ^ K ≤ 10 ^ 200 := Nat.pow_le_pow_right (by omega) (by omega)
        omega)
      have hoi : Hid (outI (sgn false (nv 10 o).toNat) = (tx ((nv 10 o).toNat : Int), 0)) := Lib.hid (by
        rw [show sgn false (nv 10 o).toNat = (((nv 10 o).toNat : Nat) : Int) by unfold sgn; simp]
        exact outI_ok (by rw [Int.natAbs_natCast]; exact hsml.out))
      generalize (nv 10 o).toNat = r at *
      clear hlen
      go_wp2_with (first
        | (go_at_call 37; (with_reducible refine (TM.out HR.out).mono ?_); rintro e w4 ⟨v1, rfl, hr1, rfl, -⟩)
        | (go_at_call 50; (with_reducible refine (checked_any false r _ _ hr1).mono ?_); rw [hoi.out]; rintro e w5 ⟨rfl, hb5⟩))
      go_ret2
      exact ⟨r, HQ.out, rfl, below_up hb1 (below_up hb2 (below_up hnx hb5))⟩

end Go.Proofs.YtcpkejpdpohfeaaGreatDoor
