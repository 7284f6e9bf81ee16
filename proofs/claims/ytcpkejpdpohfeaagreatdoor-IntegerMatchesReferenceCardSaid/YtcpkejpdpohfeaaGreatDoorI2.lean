/- The walks of package integer's closures over groups of digits, of 'fold', 'plus', 'minus' and 'by'. Conditions: sizes. -/
import Derived.Test.YtcpkejpdpohfeaaGreatDoorI1
import Derived.Test.YtcpkejpdpohfeaaGreatDoorFold
import Derived.Maps.AppendAt
import Derived.Shelf.Abstract
namespace Go.Proofs.YtcpkejpdpohfeaaGreatDoor
open Go.RowKit Num
open Go.Shelf

theorem Rd.drewN {w : World} {v : Value} {xs : List Int} (h : Rd w v xs) (n : Nat) : Rd (w.drewN n) v xs := h.below (below_drewN (Below.refl _ _) n)

set_option maxHeartbeats 400000 in
theorem plus1_any (v u : Value) (xs ys : List Int) (bl bm i : Nat) (w : World) (hv : w.cell? ⟨bl, 0, none⟩ = some v) (hu : w.cell? ⟨bm, 0, none⟩ = some u)
    (hx : Rd w v xs) (hy : Rd w u ys) (hi : i ≤ 100000000) (h1 : 0 ≤ xs[i]?.getD 0 ∧ xs[i]?.getD 0 ≤ 9999) (h2 : 0 ≤ ys[i]?.getD 0 ∧ ys[i]?.getD 0 ≤ 9999) :
    Calls Tryz.prog 69 #[.int .i64 i, .pointer (some ⟨bl, 0, none⟩), .pointer (some ⟨bm, 0, none⟩)] w fun e w' => e = .returned (.int .i64 (xs[i]?.getD 0 + ys[i]?.getD 0)) ∧ ∃ n, w' = w.drewN n := by
  have c1 : ∀ n, Calls Tryz.prog 70 #[v, .int .i64 i] (w.drewN n) fun e w' => e = .returned (.int .i64 (xs[i]?.getD 0)) ∧ w' = w.drewN n := fun n => at_any v xs i _ (hx.drewN n) hi
  have c2 : ∀ n, Calls Tryz.prog 70 #[u, .int .i64 i] (w.drewN n) fun e w' => e = .returned (.int .i64 (ys[i]?.getD 0)) ∧ w' = w.drewN n := fun n => at_any u ys i _ (hy.drewN n) hi
  generalize xs[i]?.getD 0 = x at h1 c1 ⊢
  generalize ys[i]?.getD 0 = y at h2 c2 ⊢
  have C1 := Lib.hid c1
  have C2 := Lib.hid c2
  obtain ⟨h1, h1'⟩ := h1
  obtain ⟨h2, h2'⟩ := h2
  clear c1 c2 hx hy
  go_enter Tryz.func69, Tryz.ntmps69
  go_wp2
  go_quiet ((go_at_call 70; first | with_reducible exact Calls.quiet_of_same (C1.out _) | with_reducible exact Calls.quiet_of_same (C2.out _)))
  go_wp2
  go_ret
  exact ⟨rfl, _, rfl⟩

set_option maxHeartbeats 400000 in
theorem minus1_any (v u : Value) (xs ys : List Int) (bl bm i : Nat) (w : World) (hv : w.cell? ⟨bl, 0, none⟩ = some v) (hu : w.cell? ⟨bm, 0, none⟩ = some u)
    (hx : Rd w v xs) (hy : Rd w u ys) (hi : i ≤ 100000000) (h1 : 0 ≤ xs[i]?.getD 0 ∧ xs[i]?.getD 0 ≤ 9999) (h2 : 0 ≤ ys[i]?.getD 0 ∧ ys[i]?.getD 0 ≤ 9999) :
    Calls Tryz.prog 71 #[.int .i64 i, .pointer (some ⟨bl, 0, none⟩), .pointer (some ⟨bm, 0, none⟩)] w fun e w' => e = .returned (.int .i64 (xs[i]?.getD 0 - ys[i]?.getD 0)) ∧ ∃ n, w' = w.drewN n := by
  have c1 : ∀ n, Calls Tryz.prog 70 #[v, .int .i64 i] (w.drewN n) fun e w' => e = .returned (.int .i64 (xs[i]?.getD 0)) ∧ w' = w.drewN n := fun n => at_any v xs i _ (hx.drewN n) hi
  have c2 : ∀ n, Calls Tryz.prog 70 #[u, .int .i64 i] (w.drewN n) fun e w' => e = .returned (.int .i64 (ys[i]?.getD 0)) ∧ w' = w.drewN n := fun n => at_any u ys i _ (hy.drewN n) hi
  generalize xs[i]?.getD 0 = x at h1 c1 ⊢
  generalize ys[i]?.getD 0 = y at h2 c2 ⊢
  have C1 := Lib.hid c1
  have C2 := Lib.hid c2
  obtain ⟨h1, h1'⟩ := h1
  obtain ⟨h2, h2'⟩ := h2
  clear c1 c2 hx hy
  go_enter Tryz.func71, Tryz.ntmps71
  go_wp2
  go_quiet ((go_at_call 70; first | with_reducible exact Calls.quiet_of_same (C1.out _) | with_reducible exact Calls.quiet_of_same (C2.out _)))
  go_wp2
  go_ret
  exact ⟨rfl, _, rfl⟩

set_option maxHeartbeats 400000 in
theorem by1_any (v : Value) (xs : List Int) (q : Int) (bl bn i : Nat) (w : World) (hv : w.cell? ⟨bl, 0, none⟩ = some v) (hu : w.cell? ⟨bn, 0, none⟩ = some (.int .i64 q))
    (hx : Rd w v xs) (hi : i ≤ 100000000) (h1 : 0 ≤ xs[i]?.getD 0 ∧ xs[i]?.getD 0 ≤ 9999) (h2 : 0 ≤ q ∧ q ≤ 9999) :
    Calls Tryz.prog 84 #[.int .i64 i, .pointer (some ⟨bl, 0, none⟩), .pointer (some ⟨bn, 0, none⟩)] w fun e w' => e = .returned (.int .i64 (xs[i]?.getD 0 * q)) ∧ ∃ n, w' = w.drewN n := by
  have c1 : ∀ n, Calls Tryz.prog 70 #[v, .int .i64 i] (w.drewN n) fun e w' => e = .returned (.int .i64 (xs[i]?.getD 0)) ∧ w' = w.drewN n := fun n => at_any v xs i _ (hx.drewN n) hi
  generalize xs[i]?.getD 0 = x at h1 c1 ⊢
  have C1 := Lib.hid c1
  have hw : IntKind.i64.wrap (x * q) = x * q := by
    have a1 : 0 ≤ x * q := Int.mul_nonneg h1.1 h2.1
    have a2 : x * q ≤ 9999 * 9999 := Int.mul_le_mul h1.2 h2.2 h2.1 (by omega)
    exact IntWalk.i64_in _ (by omega)
  clear c1 hx h1 h2
  go_enter Tryz.func84, Tryz.ntmps84
  go_wp2
  go_quiet ((go_at_call 70; with_reducible exact Calls.quiet_of_same (C1.out _)))
  go_wp2
  go_ret
  exact ⟨rfl, _, rfl⟩

theorem Tryz.info3 : (Tryz.prog.info? 3).map (fun i => (i.zero, i.size, i.bytes)) = some (some (.int .i64 0), 1, 8) := by kernel_rfl

/-- A row of numbers, appended to by one of a new block. -/
theorem app_one {w : World} {ops : Array Oper} {rest : List Oper} {o : Oper} {a : Act} {Q : Exit → Act → World → Prop} (hgd : o.guard = none) (s x : Operand)
    (ho : o.op = .call { callee := .builtin .append, args := #[s, x], argTypes := #[48, 48] }) (B : Nat) (v : Value) (ys : List Int) (r : Int) (hs : a.eval s = v)
    (hown : w.ownsRow B 3 1 v ys.length (ys.map (Value.int .i64))) (hx : a.eval x = .slice (some ⟨w.heap.size, 0, none⟩) 1 1) (hl : ys.length ≤ 1000000) (hB : B ≤ w.heap.size)
    (h : ∀ v' w', w'.ownsRow B 3 1 v' (ys ++ [r]).length ((ys ++ [r]).map (Value.int .i64)) → (∀ b W, Below b W w → b ≤ B → Below b W w') → wpList Tryz.prog ops Q rest (a.put o.dst v') w') :
    wpList Tryz.prog ops Q (o :: rest) a (w.alloc (.cells #[.int .i64 r] 3)) := by
  obtain ⟨i0, hi, hz0, hz1, hz2⟩ := info_parts Tryz.info3
  refine wpList_append_own _ hgd s x 48 ho B 3 i0 (.int .i64 0) 1 8 Tryz.underlying48 hi hz0 hz1 hz2 rfl (by decide) v ys.length _ hs (hown.alloc _) ⟨w.heap.size, 0, none⟩ 1 1 [.int .i64 r] hx rfl (cell_one_new _ _ _) ?_ ?_ ?_ ?_ ?_
  · intro u hu; simp at hu; subst hu; rfl
  · unfold maxLen; omega
  · omega
  · simp; omega
  · intro v' w' hown' hg _
    refine h v' w' (by simpa using hown') (fun b W hb hbB => ?_)
    exact (hb.alloc (by omega) _).grown hg (by simp; omega) (fun k hk => by have := (hown.lt k hk).1; omega)

set_option maxHeartbeats 1000000 in
set_option maxRecDepth 100000 in
theorem fold_any (g : Nat) (cb : Array Value) (n : Nat) (d : Nat → Int) (w : World) (eg : ∀ args w, (callFunc g args).run Tryz.prog w = .ok (.enter g args) w) (hn : n ≤ 900000) (hT : 0 ≤ S d 0 n)
    (hd : ∀ k, -9999 ≤ d k ∧ d k ≤ 100000000) (hz : ∀ k, n ≤ k → d k = 0)
    (hf : ∀ (i : Nat) (W : World), i ≤ 1000000 → Below w.heap.size w W → Calls Tryz.prog g (#[.int .i64 i] ++ cb) W fun e w' => e = .returned (.int .i64 (d i)) ∧ ∃ m, w' = W.drewN m) :
    Calls Tryz.prog 68 #[.int .i64 n, .int .i64 0, .func (.func g) #[] cb] w (RetL w fun ys => Dig 10000 ys ∧ nv 10000 ys = S d 0 n) := by
  obtain ⟨i0, hi, hz0, hz1, hz2⟩ := info_parts Tryz.info3
  have HT := Lib.hid hT
  have HD := Lib.hid hd
  have HZ := Lib.hid hz
  have HF := Lib.hid hf
  have HS := Lib.hid (FI.start d n)
  clear hT hd hz hf
  generalize S d 0 n = T at HT HS ⊢
  go_enter Tryz.func68, Tryz.ntmps68
  go_wp2_with (at_make; refine wpList_make_own _ rfl _ _ 48 rfl w.heap.size 3 i0 (.int .i64 0) 1 Tryz.underlying48 hi hz0 hz1 _ _ _ (n + 1) rfl rfl (by omega) ?b2 ?b3 (Nat.le_refl _) ?_)
  case b2 => rw [hz2]; omega
  case b3 => unfold maxLen; omega
  intro w0 hown0 hgrow0
  go_wp2
  go_loopw [1, 7, 8] (fun sc so si wr => ∃ (k : Nat) (c : Int) (ys : List Int), si = .int .i64 k ∧ sc = .int .i64 c ∧ wr.ownsRow w.heap.size 3 1 so ys.length (ys.map (Value.int .i64)) ∧ Hid (FI d n T k c ys) ∧ Below w.heap.size w wr)
    (fun _ _ si _ => n + 3 - (intOf si).toNat)
  case atStart => exact ⟨0, 0, [], rfl, rfl, hown0, HS.out, (Below.refl _ _).grown hgrow0 (Nat.le_refl _) (fun k h => by cases h)⟩
  case round =>
    obtain ⟨k, c, ys, rfl, rfl, hown, hI, hnx⟩ := hrel
    have HL := Lib.hid hI.out.len
    have hlo := hI.out.lo
    have hhi := hI.out.hi
    have hk2 := hI.out.k2
    by_cases hfin : n ≤ k ∧ c = 0
    · obtain ⟨hk, rfl⟩ := hfin
      have h1 : ¬ (k : Int) < (n : Int) := by omega
      go_wp2
      go_ret
      exact ⟨_, ys, rfl, Rd.own hown (by rw [HL.out]; omega), ⟨hI.out.dig, hI.out.done hk⟩, hnx⟩
    · have hgo : k < n ∨ c ≠ 0 := by omega
      have hkb := hI.out.bound HT.out hgo
      have hst : ∀ q r : Int, 0 ≤ r → r < 10000 → d k + c = r + 10000 * q → FI d n T (k + 1) q (ys ++ [r]) := fun q r h0 h1 h2 => hI.out.step HT.out (HD.out k) (HZ.out k) hgo h0 h1 h2
      have HST := Lib.hid hst
      have hcall := HF.out k wr (by omega) hnx
      have hdk := HD.out k
      have hl6 : ys.length ≤ 1000000 := by rw [HL.out]; omega
      generalize d k = x at HST hcall hdk
      obtain ⟨hd1, hd2⟩ := hdk
      clear hst HF HD HZ HT HS hI HL hfin
      have HC := Lib.hid hcall
      clear hcall
      have hkk : k < n ∨ (n ≤ k ∧ (c == 0) = false ∧ (c != 0) = true) := by
        rcases hgo with h | h
        · exact .inl h
        · rcases Nat.lt_or_ge k n with h1 | h1
          · exact .inl h1
          · exact .inr ⟨h1, by simpa using h, by simpa using h⟩
      clear hgo
      rcases hkk with hkn | ⟨hkn, hc1, hc2⟩
      all_goals
        rcases Int.lt_or_le (x + c) 0 with hs | hs
        · first
          | have hkn' : (k : Int) < (n : Int) := by omega
            skip
          | have hkn' : ¬ (k : Int) < (n : Int) := by omega
            skip
          go_wp2_with (first | (go_at_fn g; refine HC.out.mono ?_; rintro e w' ⟨rfl, m, rfl⟩) | (at_builtin; refine app_one rfl (.tmp 37) (.tmp 39) rfl w.heap.size _ ys (x + c + 10000) rfl (w := wr.drewN m) hown rfl hl6 (by have := hnx.size; exact this) ?_; intro v' w1 hown1 hb1))
          go_roundw
          case rel => exact ⟨k + 1, -1, ys ++ [x + c + 10000], by go_num, rfl, hown1, HST.out _ _ (by omega) (by omega) (by omega), hb1 _ _ (below_drewN hnx m) (Nat.le_refl _)⟩
          case measure => simp [intOf]; omega
        · rcases Int.lt_or_le (x + c) 10000 with hs2 | hs2
          · go_wp2_with (first | (go_at_fn g; refine HC.out.mono ?_; rintro e w' ⟨rfl, m, rfl⟩) | (at_builtin; refine app_one rfl (.tmp 37) (.tmp 39) rfl w.heap.size _ ys (x + c) rfl (w := wr.drewN m) hown rfl hl6 (by have := hnx.size; exact this) ?_; intro v' w1 hown1 hb1))
            go_roundw
            case rel => exact ⟨k + 1, 0, ys ++ [x + c], by go_num, rfl, hown1, HST.out _ _ (by omega) (by omega) (by omega), hb1 _ _ (below_drewN hnx m) (Nat.le_refl _)⟩
            case measure => simp [intOf]; omega
          · go_wp2_with (first | (go_at_fn g; refine HC.out.mono ?_; rintro e w' ⟨rfl, m, rfl⟩) | (at_builtin; refine app_one rfl (.tmp 37) (.tmp 39) rfl w.heap.size _ ys ((x + c) % 10000) rfl (w := wr.drewN m) hown rfl hl6 (by have := hnx.size; exact this) ?_; intro v' w1 hown1 hb1))
            go_roundw
            case rel => exact ⟨k + 1, (x + c) / 10000, ys ++ [(x + c) % 10000], by go_num, rfl, hown1, HST.out _ _ (by omega) (by omega) (by omega), hb1 _ _ (below_drewN hnx m) (Nat.le_refl _)⟩
            case measure => simp [intOf]; omega

end Go.Proofs.YtcpkejpdpohfeaaGreatDoor
