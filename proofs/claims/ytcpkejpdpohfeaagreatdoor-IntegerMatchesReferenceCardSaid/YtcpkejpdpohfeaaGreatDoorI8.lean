/- The walk of package integer's 'over': the long division of groups of digits. Conditions: sizes. -/
import Derived.Test.YtcpkejpdpohfeaaGreatDoorI7
namespace Go.Proofs.YtcpkejpdpohfeaaGreatDoor
open Go.RowKit Num
open Go.Shelf
attribute [local go_sem] Oper.semAt_some

/-! ### What the rounds come to -/
def ost (a b : Nat) (pre : List (Fin (dg 10000 a).length)) : Nat × List Int :=
  pre.foldl (fun s x => ((s.1 * 10000 + dgn a x.1) % b, s.2.set x.1 (((s.1 * 10000 + dgn a x.1) / b : Nat) : Int))) (0, List.replicate (dg 10000 a).length 0)
theorem ost_snoc (a b : Nat) (pre : List (Fin (dg 10000 a).length)) (x : Fin (dg 10000 a).length) :
    ost a b (pre ++ [x]) = (((ost a b pre).1 * 10000 + dgn a x.1) % b, (ost a b pre).2.set x.1 ((((ost a b pre).1 * 10000 + dgn a x.1) / b : Nat) : Int)) := by unfold ost; rw [List.foldl_append]; rfl
theorem ost_gen {a b : Nat} (hb : 0 < b) : ∀ (pre : List (Fin (dg 10000 a).length)) (s : Nat × List Int), s.1 < b → Dig 10000 s.2 → s.2.length = (dg 10000 a).length →
    (pre.foldl (fun s x => ((s.1 * 10000 + dgn a x.1) % b, s.2.set x.1 (((s.1 * 10000 + dgn a x.1) / b : Nat) : Int))) s).1 < b ∧
    Dig 10000 (pre.foldl (fun s x => ((s.1 * 10000 + dgn a x.1) % b, s.2.set x.1 (((s.1 * 10000 + dgn a x.1) / b : Nat) : Int))) s).2 ∧
    (pre.foldl (fun s x => ((s.1 * 10000 + dgn a x.1) % b, s.2.set x.1 (((s.1 * 10000 + dgn a x.1) / b : Nat) : Int))) s).2.length = (dg 10000 a).length
  | [], s, h1, h2, h3 => ⟨h1, h2, h3⟩
  | x :: pre, s, h1, h2, h3 => by
    rw [List.foldl_cons]
    refine ost_gen hb pre _ (Nat.mod_lt _ hb) ?_ (by rw [List.length_set]; exact h3)
    intro y hy
    rcases List.mem_or_eq_of_mem_set hy with h | rfl
    · exact h2 y h
    · have hd := dgn_le a x.1
      have h5 : (s.1 * 10000 + dgn a x.1) / b < 10000 := Nat.div_lt_of_lt_mul (by
        have : (s.1 + 1) * 10000 ≤ b * 10000 := Nat.mul_le_mul_right _ h1
        omega)
      generalize (s.1 * 10000 + dgn a x.1) / b = z at h5 ⊢
      omega
theorem ost_inv {a b : Nat} (hb : 0 < b) (pre : List (Fin (dg 10000 a).length)) : (ost a b pre).1 < b ∧ Dig 10000 (ost a b pre).2 ∧ (ost a b pre).2.length = (dg 10000 a).length :=
  ost_gen hb pre _ hb (fun x hx => by rw [(List.mem_replicate.1 hx).2]; omega) (by simp)
theorem ost_down {a b : Nat} (hb : 0 < b) : ∀ k, k ≤ (dg 10000 a).length →
    nv 10000 ((ost a b (down (dg 10000 a).length k)).2.drop ((dg 10000 a).length - k)) * b + ((ost a b (down (dg 10000 a).length k)).1 : Int) = nv 10000 ((dg 10000 a).drop ((dg 10000 a).length - k))
  | 0, _ => by
    have h := (ost_inv hb (down (dg 10000 a).length 0)).2.2
    rw [Nat.sub_zero, List.drop_of_length_le (Nat.le_refl _), List.drop_of_length_le (by rw [h]; exact Nat.le_refl _)]
    simp [ost, down, nv]
  | k + 1, h => by
    have ih := ost_down (a := a) hb k (by omega)
    rw [down_succ (show k < (dg 10000 a).length from h), ost_snoc]
    have hl := (ost_inv hb (down (dg 10000 a).length k)).2.2
    generalize ost a b (down (dg 10000 a).length k) = s at ih hl ⊢
    obtain ⟨r, q⟩ := s
    simp only at ih hl ⊢
    have ei : (dg 10000 a).length - (k + 1) = (dg 10000 a).length - 1 - k := by omega
    have ej : (dg 10000 a).length - 1 - k + 1 = (dg 10000 a).length - k := by omega
    rw [ei]
    have e1 : (dg 10000 a).drop ((dg 10000 a).length - 1 - k) = nth (dg 10000 a) ((dg 10000 a).length - 1 - k) :: (dg 10000 a).drop ((dg 10000 a).length - k) := by
      rw [List.drop_eq_getElem_cons (by omega), ej]
      congr 1
      unfold nth
      rw [List.getElem?_eq_getElem (by omega)]
      rfl
    have e2 : ∀ z : Int, (q.set ((dg 10000 a).length - 1 - k) z).drop ((dg 10000 a).length - 1 - k) = z :: q.drop ((dg 10000 a).length - k) := by
      intro z
      rw [List.drop_eq_getElem_cons (by rw [List.length_set]; omega), ej, List.getElem_set_self, List.drop_set_of_lt (by omega)]
    rw [e1, e2, nv, nv, ← ih, dgn_eq]
    generalize nv 10000 (q.drop ((dg 10000 a).length - k)) = N
    generalize dgn a ((dg 10000 a).length - 1 - k) = d
    have hm := Nat.div_add_mod (r * 10000 + d) b
    have hm' : (b : Int) * (((r * 10000 + d) / b : Nat) : Int) + (((r * 10000 + d) % b : Nat) : Int) = (r : Int) * 10000 + d := by
      rw [← Int.natCast_mul, ← Int.natCast_add, hm]; omega
    generalize (((r * 10000 + d) / b : Nat) : Int) = Q at hm' ⊢
    generalize (((r * 10000 + d) % b : Nat) : Int) = M at hm' ⊢
    show (Q + ((10000 : Nat) : Int) * N) * b + M = d + ((10000 : Nat) : Int) * (N * b + r)
    rw [Int.add_mul, Int.mul_comm Q, Int.mul_add, Int.mul_assoc]
    omega
theorem ost_all {a b : Nat} (hb : 0 < b) : nv 10000 (ost a b (down (dg 10000 a).length (dg 10000 a).length)).2 = ((a / b : Nat) : Int) ∧ (ost a b (down (dg 10000 a).length (dg 10000 a).length)).1 = a % b := by
  have h := ost_down hb _ (Nat.le_refl (dg 10000 a).length)
  have hi := ost_inv hb (down (dg 10000 a).length (dg 10000 a).length)
  rw [Nat.sub_self, List.drop_zero, List.drop_zero, nv_dg (by omega)] at h
  generalize ost a b (down (dg 10000 a).length (dg 10000 a).length) = s at h hi ⊢
  obtain ⟨r, q⟩ := s
  simp only at h hi ⊢
  obtain ⟨N, hN⟩ : ∃ N : Nat, nv 10000 q = N := ⟨_, (Int.toNat_of_nonneg (nv_nonneg hi.2.1)).symm⟩
  rw [hN] at h ⊢
  have h' : N * b + r = a := by
    rw [← Int.natCast_mul, ← Int.natCast_add] at h; omega
  subst h'
  constructor
  · congr 1
    rw [Nat.mul_comm, Nat.mul_add_div hb, Nat.div_eq_of_lt hi.1]; rfl
  · rw [Nat.mul_comm, Nat.mul_add_mod, Nat.mod_eq_of_lt hi.1]

/-- 'make([]int, n)' within a fence. -/
theorem make_ints_in {F : Fence} {n : Nat} {w : World} {ops : Array Oper} {rest : List Oper} {o : Oper} {a : Act} {Q : Exit → Act → World → Prop} (hg : o.guard = none) (l c : Operand)
    (hop : o.op = Op.makeSlice 48 l c) (L : Nat) (hl : a.eval l = .int .i64 L) (hc : a.eval c = .int .i64 L) (hL : L ≤ 900000)
    (hK : ∀ w', w'.ownsRow w.heap.size 3 1 (.slice (some ⟨w.heap.size, 0, none⟩) L L) L ((List.replicate L (0 : Int)).map (Value.int .i64)) → Below w.heap.size w w' → wpListIn F n Tryz.prog ops Q rest (a.put o.dst (.slice (some ⟨w.heap.size, 0, none⟩) L L)) w') :
    wpListIn F n Tryz.prog ops Q (o :: rest) a w := by
  obtain ⟨i0, hi, hz0, hz1, hz2⟩ := info_parts Tryz.info3
  refine wpListIn_plain hg fun K hK' => ?_
  obtain ⟨w', hrun, r1, r2⟩ := run_make_full (P := Tryz.prog) w w.heap.size 48 3 i0 (.int .i64 0) 1 Tryz.underlying48 hi hz0 hz1 .i64 .i64 L (by rw [hz2]; omega) (by unfold maxLen; omega) (Nat.le_refl _)
  unfold Oper.wpIn
  refine ⟨?_, ?_⟩
  · simp [Oper.about, hop]
  · rw [Oper.semAt_plain F _ _ (by rw [hop]; intro c hc'; cases hc')]
    simp [execOp, hop, hl, hc, hrun, Result.andThen]
    refine hK' _ _ (hK w' ?_ ((Below.refl _ _).grown r2 (Nat.le_refl _) (fun k e => by cases e)))
    have e : (madeCells (Value.int .i64 0).cells (L * 1)).toList = (List.replicate L (0 : Int)).map (Value.int .i64) := by
      rw [Nat.mul_one, List.map_replicate]
      exact toList_madeCells_one _ _
    rw [← e]; exact r1

end Go.Proofs.YtcpkejpdpohfeaaGreatDoor
