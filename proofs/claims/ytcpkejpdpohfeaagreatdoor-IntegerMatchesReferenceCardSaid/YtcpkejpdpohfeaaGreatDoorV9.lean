/- The walk of the reference implementation's 'divided'. Conditions: sizes. -/
import Derived.Test.YtcpkejpdpohfeaaGreatDoorV8
namespace Go.Proofs.YtcpkejpdpohfeaaGreatDoor
open Go.RowKit Num
open Go.Shelf

/-- 'append([]int{r}, xs...)': the literal lies in a new block. -/
theorem app_cons2 {W : World} {ops : Array Oper} {rest : List Oper} {o : Oper} {a : Act} {Q : Exit → Act → World → Prop} (hgd : o.guard = none) (s x : Operand)
    (ho : o.op = .call { callee := .builtin .append, args := #[s, x], argTypes := #[44, 44] }) (r : Int) (v : Value) (ys : List Int)
    (hs : a.eval s = .slice (some ⟨W.heap.size, 0, none⟩) 1 1) (hx : a.eval x = v) (hv : Rd W v ys) (hl : ys.length ≤ 900000)
    (h : ∀ v' w', Rd w' v' (r :: ys) → Below W.heap.size W w' → (∀ k, v'.ownBlock = some k → W.heap.size ≤ k) → wpList Tryz.prog ops Q rest (a.put o.dst v') w') :
    wpList Tryz.prog ops Q (o :: rest) a (W.alloc (.cells #[.int .i64 r] 3)) := by
  obtain ⟨i0, hi, hz0, hz1, hz2⟩ := info_parts Tryz.info3
  have hown : (W.alloc (.cells #[.int .i64 r] 3)).ownsRow W.heap.size 3 1 (.slice (some ⟨W.heap.size, 0, none⟩) 1 1) 1 [.int .i64 r] :=
    World.ownsRow_lit W #[.int .i64 r] 1 (Nat.le_refl _) (by unfold maxLen; omega) rfl
  have fin : ∀ v' w', w'.ownsRow W.heap.size 3 1 v' (r :: ys).length ((r :: ys).map (Value.int .i64)) → Below W.heap.size W w' → wpList Tryz.prog ops Q rest (a.put o.dst v') w' :=
    fun v' w' h1 h2 => h v' w' (Rd.own h1 (by simp; omega)) h2 (fun k hk => (h1.lt k hk).1)
  obtain ⟨A, c, rfl, hc, hm, hy⟩ := hv
  cases A with
  | none =>
    obtain rfl := hc.2 rfl
    have hn : ys = [] := by
      rcases Nat.eq_zero_or_pos ys.length with h0 | h0
      · exact List.eq_nil_of_length_eq_zero h0
      · obtain ⟨b, o, h1, _⟩ := hy h0; cases h1
    subst hn
    refine wpList_plain hgd fun K hK' => ?_
    have hrun := run_append_owned_none (P := Tryz.prog) (w := W.alloc (.cells #[.int .i64 r] 3)) W.heap.size 44 o.type 3 i0 1 Tryz.underlying44 hi _ 1 _ hown
    unfold Oper.wp
    simp [execOp, ho, resolve, invoke, builtin, hs, hx, hrun, Result.andThen]
    exact hK' _ _ (fin _ _ hown (below1 _ _))
  | some ad =>
    refine wpList_append_own _ hgd s x 44 ho W.heap.size 3 i0 (.int .i64 0) 1 8 Tryz.underlying44 hi hz0 hz1 hz2 rfl (by decide) _ 1 [.int .i64 r] hs hown ad ys.length c (ys.map (Value.int .i64)) hx (by simp) ?_ ?_ ?_ ?_ ?_ ?_
    · intro j u hj
      rw [List.getElem?_map] at hj
      cases hq : ys[j]? with
      | none => rw [hq] at hj; cases hj
      | some z =>
        rw [hq] at hj
        have hjl : j < ys.length := (List.getElem?_eq_some_iff.1 hq).1
        obtain ⟨b, o, h1, h2⟩ := hy (by omega)
        cases h1
        have h3 := cell_up (.cells #[.int .i64 r] 3) (h2 j hjl)
        rw [hq] at h3
        simp only [Option.map_some, Option.some.injEq] at hj
        subst hj
        rw [addr_add]
        simpa using h3
    · intro u hu
      obtain ⟨z, _, rfl⟩ := List.mem_map.1 hu
      rfl
    · unfold maxLen; omega
    · omega
    · simp
    · intro v' w' hown' hg _
      refine fin v' w' (by rw [List.length_cons, Nat.add_comm]; exact hown') ?_
      exact (below1 _ _).grown hg (by simp) (fun k hk => by cases hk; exact Nat.le_refl _)

/-! ### The plain law -/
/-- The number above the lowest j digits. -/
def top (a j : Nat) : Nat := (nv 10 ((dg 10 a).drop j)).toNat
theorem top_end {a j : Nat} (h : (dg 10 a).length ≤ j) : top a j = 0 := by
  unfold top
  rw [List.drop_of_length_le h]; rfl
theorem top_zero (a : Nat) : top a 0 = a := by
  unfold top
  rw [List.drop_zero, nv_dg (by omega)]; omega
theorem top_step {a j : Nat} (h : j < (dg 10 a).length) : (top a j : Int) = (dg 10 a)[j]?.getD 0 + 10 * top a (j + 1) := by
  have hd := (dig_dg (B := 10) (by omega) a)
  have h1 := nv_nonneg (hd.drop j)
  have h2 := nv_nonneg (hd.drop (j + 1))
  unfold top
  rw [List.drop_eq_getElem_cons h, nv] at h1 ⊢
  rw [List.getElem?_eq_getElem h, Option.getD_some]
  have : ((10 : Nat) : Int) = 10 := rfl
  omega
/-- Quotient and rest when the digits from j on are done. -/
def TQ (a n j : Nat) (qs : List Int) (r : Nat) : Prop := qs.length = (dg 10 a).length ∧ Dig 10 qs ∧ (∀ t, t < j → nth qs t = 0) ∧ nv 10 qs = ((10 : Nat) : Int) ^ j * (top a j / n : Nat) ∧ r = top a j % n
/-- Within a round: d times the divisor has been taken off. -/
def TR (a n j : Nat) (qs : List Int) (r d : Nat) : Prop := qs.length = (dg 10 a).length ∧ Dig 10 qs ∧ (∀ t, t < j → nth qs t = 0) ∧ nth qs j = d ∧ d ≤ 9 ∧
  nv 10 qs = ((10 : Nat) : Int) ^ (j + 1) * (top a (j + 1) / n : Nat) + ((10 : Nat) : Int) ^ j * d ∧ r + d * n = 10 * (top a (j + 1) % n) + ((dg 10 a)[j]?.getD 0).toNat
theorem TQ.start (a n : Nat) : TQ a n (dg 10 a).length (List.replicate (dg 10 a).length 0) 0 := by
  have hr : ∀ n, nv 10 (List.replicate n 0) = 0 := fun n => by
    induction n with
    | zero => rfl
    | succ n ih => rw [List.replicate_succ, nv, ih]; rfl
  refine ⟨List.length_replicate, fun y hy => ?_, fun t ht => ?_, ?_, ?_⟩
  · rw [List.eq_of_mem_replicate hy]; omega
  · unfold nth; rw [List.getElem?_replicate]; simp [ht]
  · rw [hr, top_end (Nat.le_refl _)]; simp
  · rw [top_end (Nat.le_refl _)]; simp
theorem TQ.round {a n j : Nat} {qs : List Int} {r : Nat} (h : TQ a n (j + 1) qs r) : TR a n j qs (10 * r + ((dg 10 a)[j]?.getD 0).toNat) 0 := by
  obtain ⟨h1, h2, h3, h4, h5⟩ := h
  exact ⟨h1, h2, fun t ht => h3 t (by omega), h3 j (by omega), by omega, by rw [h4]; simp, by rw [h5]; omega⟩
theorem TR.step {a n j : Nat} {qs : List Int} {r d : Nat} (h : TR a n j qs r d) (hj : j < (dg 10 a).length) (hn : n ≤ r) (hn0 : 0 < n) : d + 1 ≤ 9 ∧ TR a n j (qs.set j (d + 1 : Nat)) (r - n) (d + 1) := by
  obtain ⟨h1, h2, h3, h4, h5, h6, h7⟩ := h
  have hx := dig_at a j
  have hm := Nat.mod_lt (top a (j + 1)) hn0
  have hd : d + 1 ≤ 9 := by
    rcases Nat.lt_or_ge d 9 with k | k
    · omega
    · have e : d = 9 := by omega
      subst e
      omega
  refine ⟨hd, by rw [List.length_set, h1], dig_set h2 _ (by omega) (by omega), fun t ht => ?_, ?_, by omega, ?_, ?_⟩
  · unfold nth
    rw [List.getElem?_set_ne (by omega)]
    exact h3 t ht
  · unfold nth
    rw [List.getElem?_set_self (by omega)]; rfl
  · rw [nv_set _ _ _ (by omega), h6, h4, Int.add_assoc, ← Int.mul_add]
    congr 2
    omega
  · rw [Nat.add_mul, Nat.one_mul]
    omega
theorem TR.done {a n j : Nat} {qs : List Int} {r d : Nat} (h : TR a n j qs r d) (hj : j < (dg 10 a).length) (hn : r < n) : TQ a n j qs r := by
  obtain ⟨h1, h2, h3, h4, h5, h6, h7⟩ := h
  have hx := dig_at a j
  have ht : top a j = 10 * top a (j + 1) + ((dg 10 a)[j]?.getD 0).toNat := by have := top_step hj; omega
  have hdm := Nat.div_add_mod (top a (j + 1)) n
  have e : top a j = n * (10 * (top a (j + 1) / n) + d) + r := by
    rw [Nat.mul_add, ht]
    have : n * (10 * (top a (j + 1) / n)) = 10 * (n * (top a (j + 1) / n)) := Nat.mul_left_comm _ _ _
    rw [this, Nat.mul_comm n d]
    omega
  have hq : top a j / n = 10 * (top a (j + 1) / n) + d := by
    rw [e, Nat.mul_add_div (by omega), Nat.div_eq_of_lt hn]; omega
  have hr : top a j % n = r := by rw [e, Nat.mul_add_mod, Nat.mod_eq_of_lt hn]
  refine ⟨h1, h2, h3, ?_, hr.symm⟩
  rw [h6, hq, Int.pow_succ, Int.mul_assoc, ← Int.mul_add]
  congr 1
theorem TQ.done {a n : Nat} {qs : List Int} {r : Nat} (h : TQ a n 0 qs r) : dg 10 (nv 10 qs).toNat = dg 10 (a / n) ∧ r = a % n := by
  obtain ⟨h1, h2, h3, h4, h5⟩ := h
  rw [top_zero] at h4 h5
  refine ⟨?_, h5⟩
  rw [h4, Int.pow_zero, Int.one_mul, Int.toNat_natCast]

end Go.Proofs.YtcpkejpdpohfeaaGreatDoor
