/- The walk of the reference implementation's 'text'. Conditions: sizes. -/
import Derived.Test.YtcpkejpdpohfeaaGreatDoorR1
import Derived.Test.YtcpkejpdpohfeaaGreatDoorI22
import Derived.Laws.BytesString
import Derived.Laws.IdiomStrings
namespace Go.Proofs.YtcpkejpdpohfeaaGreatDoor
open Go.RowKit Num
open Go.Shelf

theorem Tryz.infoU8 : (Tryz.prog.info? 5).map (fun i => (i.zero, i.size, i.bytes)) = some (some (.int .u8 0), 1, 1) := by kernel_rfl
/-- 'append(out, b)' of bytes. -/
theorem app_byte {w : World} {ops : Array Oper} {rest : List Oper} {o : Oper} {a : Act} {Q : Exit → Act → World → Prop} (hgd : o.guard = none) (s x : Operand)
    (ho : o.op = .call { callee := .builtin .append, args := #[s, x], argTypes := #[72, 72] }) (B : Nat) (v : Value) (ys : List UInt8) (b : UInt8) (c : Int) (hbc : c = b.toNat) (hs : a.eval s = v)
    (hown : w.ownsRow B 5 1 v ys.length (Lib.byteCells ys)) (hx : a.eval x = .slice (some ⟨w.heap.size, 0, none⟩) 1 1) (hl : ys.length ≤ 2000000) (hB : B ≤ w.heap.size)
    (h : ∀ v' w', w'.ownsRow B 5 1 v' (ys ++ [b]).length (Lib.byteCells (ys ++ [b])) → (∀ b W, Below b W w → b ≤ B → Below b W w') → wpList Tryz.prog ops Q rest (a.put o.dst v') w') :
    wpList Tryz.prog ops Q (o :: rest) a (w.alloc (.cells #[.int .u8 c] 5)) := by
  subst hbc
  obtain ⟨i0, hi, hz0, hz1, hz2⟩ := info_parts Tryz.infoU8
  refine wpList_append_own _ hgd s x 72 ho B 5 i0 (.int .u8 0) 1 1 Tryz.underlying72 hi hz0 hz1 hz2 rfl (by decide) v ys.length _ hs (hown.alloc _) ⟨w.heap.size, 0, none⟩ 1 1 [.int .u8 b.toNat] hx rfl (cell_one_new _ _ _) ?_ ?_ ?_ ?_ ?_
  · intro u hu; simp at hu; subst hu; rfl
  · unfold maxLen; omega
  · omega
  · simp; omega
  · intro v' w' hown' hg _
    refine h v' w' (by rw [List.length_append, List.length_singleton, Lib.byteCells_append]; exact hown') (fun b W hb hbB => ?_)
    exact (hb.alloc (by omega) _).grown hg (by simp; omega) (fun k hk => by have := (hown.lt k hk).1; omega)

/-! ### The text of decimal digits -/
def chr (d : Int) : UInt8 := UInt8.ofNat (48 + d.toNat)
theorem dec_dg : ∀ (u : Nat), 0 < u → Lib.decDigits u = (dg 10 u).reverse.map chr := by
  intro u
  induction u using Nat.strongRecOn with
  | ind u ih =>
    intro hu
    rw [dg_pos (by omega) hu, List.reverse_cons, List.map_append]
    by_cases h : u < 10
    · rw [dec_small h, Nat.div_eq_of_lt h, dg_zero, Nat.mod_eq_of_lt h]
      simp [chr]
    · rw [dec_big h, ih (u / 10) (by omega) (by omega)]
      show _ = _ ++ [chr ((u % 10 : Nat) : Int)]
      unfold chr
      rw [Int.toNat_natCast]
def sg0 (neg : Bool) : List UInt8 := if neg then [45] else []
def rt (neg : Bool) (n k : Nat) : List UInt8 := sg0 neg ++ ((dg 10 n).drop k).reverse.map chr
theorem rt_step {neg : Bool} {n k : Nat} (hk : k < (dg 10 n).length) : rt neg n (k + 1) ++ [chr (nth (dg 10 n) k)] = rt neg n k := by
  unfold rt
  rw [List.drop_eq_getElem_cons hk, List.reverse_cons, List.map_append, List.append_assoc]
  unfold nth
  rw [List.getElem?_eq_getElem hk]
  rfl
theorem rt_done {neg : Bool} {n : Nat} (h : 0 < n) : (⟨(rt neg n 0).toArray⟩ : ByteArray) = tx (sgn neg n) := by
  unfold rt tx
  rw [List.drop_zero, ← dec_dg n h]
  unfold sg0 sgn
  cases neg
  · simp [itoa_pos]
  · rw [if_pos rfl, if_pos rfl, itoa_neg (by omega)]
    simp
theorem rt_len {neg : Bool} {n k : Nat} : (rt neg n k).length ≤ 1 + (dg 10 n).length := by
  unfold rt sg0
  rw [List.length_append, List.length_map, List.length_reverse, List.length_drop]
  cases neg <;> simp <;> omega
theorem len200 (n : Nat) : decide ((dg 10 n).length ≤ 200) = decide (n < 10 ^ 200) := by
  rw [decide_eq_decide]
  constructor
  · intro h
    exact Nat.lt_of_lt_of_le (dg_len_lt (by omega) n) (Nat.pow_le_pow_right (by omega) h)
  · exact dg_len (by omega) 200 n

set_option maxHeartbeats 2000000 in
set_option maxRecDepth 100000 in
theorem rtext_any (neg : Bool) (n : Nat) (v : Value) (w : World) (hv : Rd w v (dg 10 n)) :
    Calls Tryz.prog 36 #[.bool neg, v] w fun e w' => e = .returned (.tuple #[.string (tx (sgn neg n)), .bool (decide (n < 10 ^ 200))]) ∧ Below w.heap.size w w' := by
  have HV := Lib.hid hv
  obtain ⟨A, c, rfl, -, hm, -⟩ := hv
  have h200 := len200 n
  rcases Nat.eq_zero_or_pos n with rfl | h0
  · have e0 : dg 10 0 = [] := dg_zero _
    have et : tx (sgn neg ((0 : Nat))) = ⟨#[48]⟩ := by
      have e : sgn neg 0 = ((0 : Nat) : Int) := by unfold sgn; cases neg <;> rfl
      rw [e]; unfold tx
      rw [itoa_pos, dec_small (by omega)]
      rfl
    rw [et, show decide (0 < 10 ^ 200) = true by decide]
    clear et h200 HV hm
    rw [e0]
    simp only [List.length_nil]
    go_enter Tryz.func36, Tryz.ntmps36
    go_wp2
    go_ret2
    exact ⟨rfl, Below.refl _ _⟩
  · have hlp : 0 < (dg 10 n).length := by
      have : dg 10 n ≠ [] := fun e => by rw [dg_eq_nil (by omega)] at e; omega
      exact List.length_pos_iff.2 this
    have hli : (((dg 10 n).length : Int) == 0) = false := by
      rw [beq_eq_false_iff_ne]; omega
    have hd : ∀ (i : Decidable (((dg 10 n).length : Int) ≤ 200)), @decide _ i = decide ((dg 10 n).length ≤ 200) := fun i => by rw [decide_eq_decide]; omega
    have HDD := Lib.hid hd
    clear hd
    have hwl : IntKind.i64.wrap (((dg 10 n).length : Int) - 1) = ((dg 10 n).length : Int) - 1 := IntWalk.i64_in _ (by omega)
    have HD := Lib.hid (rt_done (neg := neg) h0)
    have HN := Lib.hid (len200 n)
    have HST : Hid (rt neg n (dg 10 n).length = sg0 neg) := Lib.hid (by unfold rt; rw [List.drop_length]; simp)
    rw [← h200]
    clear h200 h0
    go_enter Tryz.func36, Tryz.ntmps36
    have key : ∀ (W : World) (v6 : Value) (hown : W.ownsRow w.heap.size 5 1 v6 (sg0 neg).length (Lib.byteCells (sg0 neg))) (hb : Below w.heap.size w W), True := fun _ _ _ _ => trivial
    cases neg with
    | false =>
      go_wp2
      go_loopg [6, 7] (dg 10 n).length (fun kx s6 s7 wr => ∃ k : Nat, s7 = .int .i64 ((k : Int) - 1) ∧ k ≤ (dg 10 n).length ∧ k ≤ kx ∧ wr.ownsRow w.heap.size 5 1 s6 (rt false n k).length (Lib.byteCells (rt false n k)) ∧ Below w.heap.size w wr)
      case atStart => exact ⟨(dg 10 n).length, rfl, Nat.le_refl _, Nat.le_refl _, by rw [HST.out]; exact World.ownsRow_nil _ _ _ _, Below.refl _ _⟩
      case round =>
        obtain ⟨k, rfl, hk, hkx, hown, hnx⟩ := hrel
        have hrl := rt_len (neg := false) (n := n) (k := k)
        rcases Nat.eq_zero_or_pos k with rfl | hk0
        · have hpos : 0 < (rt false n 0).length := by
            have h1 : (rt false n 0).length = (sg0 false).length + (dg 10 n).length := by unfold rt; simp
            omega
          rcases id hown.2 with ⟨_, h2⟩ | ⟨g, cap, cur, rfl, -⟩
          · omega
          have hconv : (convert 72 9 (.slice (some ⟨g, 0, none⟩) (rt false n 0).length cap)).run Tryz.prog wr = .ok (.string (tx (sgn false n))) wr := by
            rw [run_convert_bytes_back wr 72 9 5 ⟨g, 0, none⟩ cap (rt false n 0) Tryz.underlying72 Tryz.underlying5 Tryz.underlying9 (fun j hj => by
              rw [addr_add, hown.cellAt (0 + j) (by omega), Nat.zero_add]
              simp [Lib.byteCells, List.getElem?_eq_getElem hj]), HD.out]
          have hneg : ¬ (0 : Int) ≤ ((0 : Nat) : Int) - 1 := by omega
          clear hown hpos hrl
          generalize (rt false n 0).length = L at *
          go_wp2
          go_ret2
          refine ⟨?_, hnx⟩
          show Ending.returned (.tuple #[.string (tx (sgn false n)), .bool (@decide (((dg 10 n).length : Int) ≤ 200) _)]) = _
          rw [HDD.out]
        · obtain ⟨m, rfl⟩ : ∃ m, k = m + 1 := ⟨k - 1, by omega⟩
          obtain ⟨A', c', hAe, _, _, hx⟩ := HV.out.below hnx
          cases hAe
          obtain ⟨b, o, rfl, hy⟩ := hx hlp
          have hcell : wr.cell? ⟨b, o + m, none⟩ = some (.int .i64 (nth (dg 10 n) m)) := hy m (by omega)
          have hdd : 0 ≤ nth (dg 10 n) m ∧ nth (dg 10 n) m < 10 := by
            have h := (dig_dg (B := 10) (by omega) n).getD (by omega) m
            unfold nth
            simpa [List.getD_eq_getElem?_getD] using h
          have HRS := Lib.hid (rt_step (neg := false) (n := n) (k := m) (by omega))
          have HOWN := Lib.hid hown
          clear hown hx hy
          generalize nth (dg 10 n) m = d at *
          obtain ⟨hd0, hd1⟩ := hdd
          have hbc : Hid (48 + d = ((chr d).toNat : Int)) := Lib.hid (by unfold chr; rw [toNat_ch (by omega)]; omega)
          have hw48 : IntKind.i64.wrap (48 + d) = 48 + d := IntWalk.i64_in _ (by omega)
          have hu48 : IntKind.u8.wrap (48 + d) = 48 + d := IntWalk.u8_in _ (by omega)
          have hwm : IntKind.i64.wrap ((m : Int) - 1) = (m : Int) - 1 := IntWalk.i64_in _ (by omega)
          have hml : (m : Int) < ((dg 10 n).length : Int) := by omega
          rw [show (((m + 1 : Nat) : Int) - 1) = (m : Int) by omega]
          go_wp2_with (at_builtin; go_loud (refine app_byte rfl (.tmp 22) (.tmp 29) rfl w.heap.size _ (rt false n (m + 1)) (chr d) (48 + d) hbc.out rfl HOWN.out rfl (by omega) hnx.size ?_; intro v' w3 hown3 hb3))
          go_roundg m
          case measure => omega
          case rel => exact ⟨m, rfl, by omega, Nat.le_refl _, by rw [← HRS.out]; exact hown3, hb3 w.heap.size w hnx (Nat.le_refl _)⟩
    | true =>
      go_wp2_with (at_builtin; refine app_byte rfl (.tmp 12) (.tmp 13) rfl w.heap.size _ [] 45 45 rfl rfl (World.ownsRow_nil w _ _ _) rfl (by simp) (Nat.le_refl _) ?_; intro v6 w2 hown2 hb2)
      have hB2 := hb2 w.heap.size w (Below.refl _ _) (Nat.le_refl _)
      have HOWN2 := Lib.hid hown2
      clear hown2 hb2
      go_loopg [6, 7] (dg 10 n).length (fun kx s6 s7 wr => ∃ k : Nat, s7 = .int .i64 ((k : Int) - 1) ∧ k ≤ (dg 10 n).length ∧ k ≤ kx ∧ wr.ownsRow w.heap.size 5 1 s6 (rt true n k).length (Lib.byteCells (rt true n k)) ∧ Below w.heap.size w wr)
      case atStart => exact ⟨(dg 10 n).length, rfl, Nat.le_refl _, Nat.le_refl _, by rw [HST.out]; exact HOWN2.out, hB2⟩
      case round =>
        obtain ⟨k, rfl, hk, hkx, hown, hnx⟩ := hrel
        have hrl := rt_len (neg := true) (n := n) (k := k)
        rcases Nat.eq_zero_or_pos k with rfl | hk0
        · have hpos : 0 < (rt true n 0).length := by
            have h1 : (rt true n 0).length = (sg0 true).length + (dg 10 n).length := by unfold rt; simp
            omega
          rcases id hown.2 with ⟨_, h2⟩ | ⟨g, cap, cur, rfl, -⟩
          · omega
          have hconv : (convert 72 9 (.slice (some ⟨g, 0, none⟩) (rt true n 0).length cap)).run Tryz.prog wr = .ok (.string (tx (sgn true n))) wr := by
            rw [run_convert_bytes_back wr 72 9 5 ⟨g, 0, none⟩ cap (rt true n 0) Tryz.underlying72 Tryz.underlying5 Tryz.underlying9 (fun j hj => by
              rw [addr_add, hown.cellAt (0 + j) (by omega), Nat.zero_add]
              simp [Lib.byteCells, List.getElem?_eq_getElem hj]), HD.out]
          have hneg : ¬ (0 : Int) ≤ ((0 : Nat) : Int) - 1 := by omega
          clear hown hpos hrl
          generalize (rt true n 0).length = L at *
          go_wp2
          go_ret2
          refine ⟨?_, hnx⟩
          show Ending.returned (.tuple #[.string (tx (sgn true n)), .bool (@decide (((dg 10 n).length : Int) ≤ 200) _)]) = _
          rw [HDD.out]
        · obtain ⟨m, rfl⟩ : ∃ m, k = m + 1 := ⟨k - 1, by omega⟩
          obtain ⟨A', c', hAe, _, _, hx⟩ := HV.out.below hnx
          cases hAe
          obtain ⟨b, o, rfl, hy⟩ := hx hlp
          have hcell : wr.cell? ⟨b, o + m, none⟩ = some (.int .i64 (nth (dg 10 n) m)) := hy m (by omega)
          have hdd : 0 ≤ nth (dg 10 n) m ∧ nth (dg 10 n) m < 10 := by
            have h := (dig_dg (B := 10) (by omega) n).getD (by omega) m
            unfold nth
            simpa [List.getD_eq_getElem?_getD] using h
          have HRS := Lib.hid (rt_step (neg := true) (n := n) (k := m) (by omega))
          have HOWN := Lib.hid hown
          clear hown hx hy
          generalize nth (dg 10 n) m = d at *
          obtain ⟨hd0, hd1⟩ := hdd
          have hbc : Hid (48 + d = ((chr d).toNat : Int)) := Lib.hid (by unfold chr; rw [toNat_ch (by omega)]; omega)
          have hw48 : IntKind.i64.wrap (48 + d) = 48 + d := IntWalk.i64_in _ (by omega)
          have hu48 : IntKind.u8.wrap (48 + d) = 48 + d := IntWalk.u8_in _ (by omega)
          have hwm : IntKind.i64.wrap ((m : Int) - 1) = (m : Int) - 1 := IntWalk.i64_in _ (by omega)
          have hml : (m : Int) < ((dg 10 n).length : Int) := by omega
          rw [show (((m + 1 : Nat) : Int) - 1) = (m : Int) by omega]
          go_wp2_with (at_builtin; go_loud (refine app_byte rfl (.tmp 22) (.tmp 29) rfl w.heap.size _ (rt true n (m + 1)) (chr d) (48 + d) hbc.out rfl HOWN.out rfl (by omega) hnx.size ?_; intro v' w3 hown3 hb3))
          go_roundg m
          case measure => omega
          case rel => exact ⟨m, rfl, by omega, Nat.le_refl _, by rw [← HRS.out]; exact hown3, hb3 w.heap.size w hnx (Nat.le_refl _)⟩

end Go.Proofs.YtcpkejpdpohfeaaGreatDoor
