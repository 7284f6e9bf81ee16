/- The walks of package integer's 'plus', 'minus' and 'by' of groups of digits. Conditions: sizes. -/
import Derived.Test.YtcpkejpdpohfeaaGreatDoorI2
namespace Go.Proofs.YtcpkejpdpohfeaaGreatDoor
open Go.RowKit Num
open Go.Shelf

/-- A bound on all numbers that are met. -/
def big : Nat := 10000 ^ 200
theorem dg_big {n : Nat} (h : n < big) : (dg 10000 n).length ≤ 200 := dg_len (by omega) 200 n (by unfold big at h; exact h)

theorem cell_new1 (w : World) (v : Value) (t : TypeId) : (w.alloc (.cells #[v] t)).cell? ⟨w.heap.size, 0, none⟩ = some v := by
  rw [World.cell?_alloc_at _ _ _ _ rfl]; rfl
theorem below1 (w : World) (o : Obj) : Below w.heap.size w (w.alloc o) := (Below.refl _ _).alloc (Nat.le_refl _) o
theorem cell_up {w : World} {a : Addr} {v : Value} (o : Obj) (h : w.cell? a = some v) : (w.alloc o).cell? a = some v :=
  ((below1 w o).cell (cell_lt h)).trans h
theorem below2 (w : World) (o o' : Obj) : Below w.heap.size w ((w.alloc o).alloc o') := (below1 w o).alloc (by simp) o'

set_option maxHeartbeats 400000 in
theorem plus_any (a b : Nat) (v u : Value) (w : World) (hv : Rd w v (dg 10000 a)) (hu : Rd w u (dg 10000 b)) (hs : a + b < big) :
    Calls Tryz.prog 43 #[v, u] w (RetN w (a + b)) := by
  have hla := dg_big (show a < big by omega)
  have hlb := dg_big (show b < big by omega)
  obtain ⟨W, hW⟩ : ∃ W, W = (w.alloc (.cells #[v] 48)).alloc (.cells #[u] 48) := ⟨_, rfl⟩
  have hb : Below w.heap.size w W := by rw [hW]; exact below2 _ _ _
  have cv : W.cell? ⟨w.heap.size, 0, none⟩ = some v := by rw [hW]; exact cell_up _ (cell_new1 _ _ _)
  have cu : W.cell? ⟨w.heap.size + 1, 0, none⟩ = some u := by rw [hW]; have := cell_new1 (w.alloc (.cells #[v] 48)) u 48; rwa [World.size_alloc] at this
  have eS : S (fun i => (dg 10000 a)[i]?.getD 0 + (dg 10000 b)[i]?.getD 0) 0 (max (dg 10000 a).length (dg 10000 b).length) = ((a + b : Nat) : Int) := by
    rw [S_add, S_dg _ _ (by omega), S_dg _ _ (by omega)]; omega
  have F := fold_any 69 #[.pointer (some ⟨w.heap.size, 0, none⟩), .pointer (some ⟨w.heap.size + 1, 0, none⟩)] (max (dg 10000 a).length (dg 10000 b).length)
    (fun i => (dg 10000 a)[i]?.getD 0 + (dg 10000 b)[i]?.getD 0) W (enters_of Tryz.func69 (by kernel_rfl) rfl) (by omega) (by rw [eS]; omega)
    (fun k => by have := dgat a k; have := dgat b k; omega) (fun k hk => by show _ + _ = _; rw [dgout (by omega), dgout (by omega)]; rfl)
    (fun i W1 hi hW1 => plus1_any v u _ _ _ _ i W1 ((hW1.cell (cell_lt cv)).trans cv) ((hW1.cell (cell_lt cu)).trans cu) (hv.below (below_up hb hW1)) (hu.below (below_up hb hW1)) (by omega) (dgat a i) (dgat b i))
  rw [eS] at F
  subst hW
  obtain ⟨A, c, rfl, _, _, _⟩ := hv
  obtain ⟨A', c', rfl, _, _, _⟩ := hu
  have HF := Lib.hid F
  have HB := Lib.hid hb
  generalize (dg 10000 a).length = la at *
  generalize (dg 10000 b).length = lb at *
  clear F hb cv cu eS
  clear hs
  rcases Nat.lt_or_ge la lb with h | h
  · rw [Nat.max_eq_right (by omega)] at HF
    go_enter Tryz.func43, Tryz.ntmps43
    go_wp2_with (first | (go_at_call 68; refine HF.out.mono ?_; rintro e W1 ⟨v1, ys, rfl, hr1, ⟨hd1, hv1⟩, hb1⟩) | (go_at_call 65; refine (trimmed_any v1 ys W1 hr1 hd1).mono ?_; rintro e W2 ⟨v2, rfl, hr2, rfl⟩))
    go_ret
    exact ⟨v2, rfl, by rw [hv1] at hr2; exact hr2, below_up HB.out hb1⟩
  · rw [Nat.max_eq_left (by omega)] at HF
    go_enter Tryz.func43, Tryz.ntmps43
    go_wp2_with (first | (go_at_call 68; refine HF.out.mono ?_; rintro e W1 ⟨v1, ys, rfl, hr1, ⟨hd1, hv1⟩, hb1⟩) | (go_at_call 65; refine (trimmed_any v1 ys W1 hr1 hd1).mono ?_; rintro e W2 ⟨v2, rfl, hr2, rfl⟩))
    go_ret
    exact ⟨v2, rfl, by rw [hv1] at hr2; exact hr2, below_up HB.out hb1⟩

set_option maxHeartbeats 400000 in
theorem minus_any (a b : Nat) (v u : Value) (w : World) (hv : Rd w v (dg 10000 a)) (hu : Rd w u (dg 10000 b)) (hs : a < big) (hba : b ≤ a) :
    Calls Tryz.prog 45 #[v, u] w (RetN w (a - b)) := by
  have hla := dg_big hs
  have hlb : (dg 10000 b).length ≤ (dg 10000 a).length := by
    rcases Nat.lt_or_ge (dg 10000 a).length (dg 10000 b).length with h | h
    · have := lt_of_len (by omega) h; omega
    · exact h
  obtain ⟨W, hW⟩ : ∃ W, W = (w.alloc (.cells #[v] 48)).alloc (.cells #[u] 48) := ⟨_, rfl⟩
  have hb : Below w.heap.size w W := by rw [hW]; exact below2 _ _ _
  have cv : W.cell? ⟨w.heap.size, 0, none⟩ = some v := by rw [hW]; exact cell_up _ (cell_new1 _ _ _)
  have cu : W.cell? ⟨w.heap.size + 1, 0, none⟩ = some u := by rw [hW]; have := cell_new1 (w.alloc (.cells #[v] 48)) u 48; rwa [World.size_alloc] at this
  have eS : S (fun i => (dg 10000 a)[i]?.getD 0 - (dg 10000 b)[i]?.getD 0) 0 (dg 10000 a).length = ((a - b : Nat) : Int) := by
    rw [S_sub, S_dg _ _ (by omega), S_dg _ _ (by omega)]; omega
  have F := fold_any 71 #[.pointer (some ⟨w.heap.size, 0, none⟩), .pointer (some ⟨w.heap.size + 1, 0, none⟩)] (dg 10000 a).length
    (fun i => (dg 10000 a)[i]?.getD 0 - (dg 10000 b)[i]?.getD 0) W (enters_of Tryz.func71 (by kernel_rfl) rfl) (by omega) (by rw [eS]; omega)
    (fun k => by have := dgat a k; have := dgat b k; omega) (fun k hk => by show _ - _ = _; rw [dgout (by omega), dgout (by omega)]; rfl)
    (fun i W1 hi hW1 => minus1_any v u _ _ _ _ i W1 ((hW1.cell (cell_lt cv)).trans cv) ((hW1.cell (cell_lt cu)).trans cu) (hv.below (below_up hb hW1)) (hu.below (below_up hb hW1)) (by omega) (dgat a i) (dgat b i))
  rw [eS] at F
  subst hW
  obtain ⟨A, c, rfl, _, _, _⟩ := hv
  obtain ⟨A', c', rfl, _, _, _⟩ := hu
  have HF := Lib.hid F
  have HB := Lib.hid hb
  generalize (dg 10000 a).length = la at *
  generalize (dg 10000 b).length = lb at *
  clear F hb cv cu eS hs hba
  go_enter Tryz.func45, Tryz.ntmps45
  go_wp2_with (first | (go_at_call 68; refine HF.out.mono ?_; rintro e W1 ⟨v1, ys, rfl, hr1, ⟨hd1, hv1⟩, hb1⟩) | (go_at_call 65; refine (trimmed_any v1 ys W1 hr1 hd1).mono ?_; rintro e W2 ⟨v2, rfl, hr2, rfl⟩))
  go_ret
  exact ⟨v2, rfl, by rw [hv1] at hr2; exact hr2, below_up HB.out hb1⟩

set_option maxHeartbeats 400000 in
theorem by_any (a q : Nat) (v : Value) (w : World) (hv : Rd w v (dg 10000 a)) (hs : a < big) (hq : q ≤ 9999) :
    Calls Tryz.prog 64 #[v, .int .i64 q] w (RetN w (a * q)) := by
  have hla := dg_big hs
  obtain ⟨W, hW⟩ : ∃ W, W = (w.alloc (.cells #[v] 48)).alloc (.cells #[.int .i64 q] 3) := ⟨_, rfl⟩
  have hb : Below w.heap.size w W := by rw [hW]; exact below2 _ _ _
  have cv : W.cell? ⟨w.heap.size, 0, none⟩ = some v := by rw [hW]; exact cell_up _ (cell_new1 _ _ _)
  have cu : W.cell? ⟨w.heap.size + 1, 0, none⟩ = some (.int .i64 q) := by rw [hW]; have := cell_new1 (w.alloc (.cells #[v] 48)) (.int .i64 q) 3; rwa [World.size_alloc] at this
  have eS : S (fun i => (dg 10000 a)[i]?.getD 0 * (q : Int)) 0 (dg 10000 a).length = ((a * q : Nat) : Int) := by
    rw [S_mul, S_dg _ _ (by omega)]; omega
  have F := fold_any 84 #[.pointer (some ⟨w.heap.size, 0, none⟩), .pointer (some ⟨w.heap.size + 1, 0, none⟩)] (dg 10000 a).length
    (fun i => (dg 10000 a)[i]?.getD 0 * (q : Int)) W (enters_of Tryz.func84 (by kernel_rfl) rfl) (by omega) (by rw [eS]; omega)
    (fun k => by
      have h1 := dgat a k
      have a1 : 0 ≤ (dg 10000 a)[k]?.getD 0 * (q : Int) := Int.mul_nonneg h1.1 (by omega)
      have a2 : (dg 10000 a)[k]?.getD 0 * (q : Int) ≤ 9999 * 9999 := Int.mul_le_mul h1.2 (by omega) (by omega) (by omega)
      omega) (fun k hk => by show _ * _ = _; rw [dgout (by omega)]; simp)
    (fun i W1 hi hW1 => by1_any v _ q _ _ i W1 ((hW1.cell (cell_lt cv)).trans cv) ((hW1.cell (cell_lt cu)).trans cu) (hv.below (below_up hb hW1)) (by omega) (dgat a i) (by omega))
  rw [eS] at F
  subst hW
  obtain ⟨A, c, rfl, _, _, _⟩ := hv
  have HF := Lib.hid F
  have HB := Lib.hid hb
  generalize (dg 10000 a).length = la at *
  clear F hb cv cu eS hs
  go_enter Tryz.func64, Tryz.ntmps64
  go_wp2_with (first | (go_at_call 68; refine HF.out.mono ?_; rintro e W1 ⟨v1, ys, rfl, hr1, ⟨hd1, hv1⟩, hb1⟩) | (go_at_call 65; refine (trimmed_any v1 ys W1 hr1 hd1).mono ?_; rintro e W2 ⟨v2, rfl, hr2, rfl⟩))
  go_ret
  exact ⟨v2, rfl, by rw [hv1] at hr2; exact hr2, below_up HB.out hb1⟩

end Go.Proofs.YtcpkejpdpohfeaaGreatDoor
