/- The walk of package integer's 'both'. Conditions: none. -/
import Derived.Test.YtcpkejpdpohfeaaGreatDoorI13
namespace Go.Proofs.YtcpkejpdpohfeaaGreatDoor
open Go.RowKit Num
open Go.Shelf

/-- A struct value that is the number z, its sign as it is parsed. -/
def Sc (w : World) (s : Value) (z : Int) : Prop := ∃ A c, s = .agg #[.bool (decide (z < 0)), .slice A (dg 10000 z.natAbs).length c] ∧ Rd w (.slice A (dg 10000 z.natAbs).length c) (dg 10000 z.natAbs)

theorem rd_valid {s : ByteArray} {z : Int} (h : rdI s = some z) : validL s.data.toList = true ∧ decide (s.data.toList.head? = some 45) = decide (z < 0) ∧ dval (body s.data.toList) = z.natAbs := by
  have hv : validL s.data.toList = true := by
    unfold rdI at h
    split at h
    · assumption
    · cases h
  obtain ⟨rfl, _⟩ := rdI_some h
  have e : (tx z).data.toList = Lib.itoa z := rfl
  refine ⟨hv, ?_, by rw [e, body_itoa, dval_dec]⟩
  rw [e]
  rcases Int.lt_or_le z 0 with h0 | h0
  · rw [itoa_neg h0]; simp [h0]
  · rw [itoa_nonneg h0]
    have h1 := dec_head45 z.natAbs
    have h2 : ¬ z < 0 := by omega
    simp [h1, h2]
theorem rd_none {s : ByteArray} (h : rdI s = none) : validL s.data.toList = false := by
  unfold rdI at h
  split at h
  · cases h
  · rename_i hn; simpa using hn
theorem parse_rd {s : ByteArray} {z : Int} (h : rdI s = some z) (w : World) : Calls Tryz.prog 59 #[.string s] w fun e w' => (∃ u, e = .returned u ∧ Sc w' u z) ∧ Below w.heap.size w w' := by
  obtain ⟨h1, h2, h3⟩ := rd_valid h
  refine (parse_any s w h1).mono ?_
  rintro e w' ⟨v, rfl, hr, hb⟩
  rw [h2]
  rw [h3] at hr
  obtain ⟨A, c, rfl, -⟩ := id hr
  exact ⟨⟨_, rfl, A, c, rfl, hr⟩, hb⟩

/-- Both structs are stored. -/
theorem two_boxes {w W : World} {z : Nat} (hb : Below z w W) (h1 : SBox W z false (.slice none 0 0)) (h2 : SBox W (z + 1) false (.slice none 0 0)) (n1 n2 : Bool) (A1 A2 : Option Addr) (k1 k2 c1 c2 : Nat) :
    ∀ W5, W5 = (((W.setCell ⟨z, 0, none⟩ (.bool n1)).setCell ⟨z, 1, none⟩ (.slice A1 k1 c1)).setCell ⟨z + 1, 0, none⟩ (.bool n2)).setCell ⟨z + 1, 1, none⟩ (.slice A2 k2 c2) →
    SBox W5 z n1 (.slice A1 k1 c1) ∧ SBox W5 (z + 1) n2 (.slice A2 k2 c2) ∧ Below z w W5 ∧ ∀ v xs, Rd W v xs → Rd W5 v xs := by
  rintro W5 rfl
  have a1 := h1.set0 n1
  have a2 := a1.set (.slice A1 k1 c1)
  have b1 := h2.other (b := z) (by omega) 0 (.bool n1)
  have b2 := b1.other (b := z) (by omega) 1 (.slice A1 k1 c1)
  have b3 := b2.set0 n2
  refine ⟨(a2.other (by omega) _ _).other (by omega) _ _, b3.set _, ?_, fun v xs h => Rd.set_sbox b3 (Rd.set_sbox b2 (Rd.set_sbox a1 (Rd.set_sbox h1 h _ _) _ _) _ _) _ _⟩
  have hT := (((Turn.setCell (X := [z, z + 1]) W z 0 (.bool n1) (by simp)).trans (Turn.setCell _ z 1 (.slice A1 k1 c1) (by simp))).trans (Turn.setCell _ (z + 1) 0 (.bool n2) (by simp))).trans (Turn.setCell _ (z + 1) 1 (.slice A2 k2 c2) (by simp))
  exact hb.trans ⟨hT.os, hT.tape, hT.output, hT.size, fun k hk => by
    rcases Nat.lt_or_ge k W.heap.size with h | h
    · exact hT.block k h (by simp; omega)
    · rw [Array.getElem?_eq_none h, Array.getElem?_eq_none (by simpa using h)]⟩

def nilS : Value := .agg #[.bool false, .slice none 0 0]
def RetBoth (w : World) (a b : ByteArray) (e : Ending) (w' : World) : Prop := Below w.heap.size w w' ∧
  ((∃ x y u v, rdI a = some x ∧ rdI b = some y ∧ e = .returned (.tuple #[u, v, .bool true]) ∧ Sc w' u x ∧ Sc w' v y) ∨ ((rdI a = none ∨ rdI b = none) ∧ e = .returned (.tuple #[nilS, nilS, .bool false])))

set_option maxHeartbeats 1000000 in
theorem both_any (a b : ByteArray) (w : World) : Calls Tryz.prog 38 #[.string a, .string b] w (RetBoth w a b) := by
  have hsb : SBox ((w.alloc (.cells #[.bool false, .slice none 0 0] 50)).alloc (.cells #[.bool false, .slice none 0 0] 50)) (w.heap.size + 1) false (.slice none 0 0) := by
    have := World.alloc_heap_new (w.alloc (.cells #[.bool false, .slice none 0 0] 50)) (.cells #[.bool false, .slice none 0 0] 50)
    unfold SBox
    simpa using this
  have hsr : SBox ((w.alloc (.cells #[.bool false, .slice none 0 0] 50)).alloc (.cells #[.bool false, .slice none 0 0] 50)) w.heap.size false (.slice none 0 0) :=
    ((below1 _ _).block _ (by simp)).trans (World.alloc_heap_new w (.cells #[.bool false, .slice none 0 0] 50))
  have HSB := Lib.hid hsb
  have HSR := Lib.hid hsr
  clear hsb hsr
  have fin : ∀ W, Below ((w.alloc (.cells #[.bool false, .slice none 0 0] 50)).alloc (.cells #[.bool false, .slice none 0 0] 50)).heap.size ((w.alloc (.cells #[.bool false, .slice none 0 0] 50)).alloc (.cells #[.bool false, .slice none 0 0] 50)) W →
      SBox W w.heap.size false (.slice none 0 0) ∧ SBox W (w.heap.size + 1) false (.slice none 0 0) ∧ Below w.heap.size w W := fun W hb => ⟨HSR.out.below hb HSR.out.lt, HSB.out.below hb HSB.out.lt, (below2 _ _ _).trans (hb.mono (by simp; omega))⟩
  have FIN := Lib.hid fin
  clear fin
  go_enter Tryz.func38, Tryz.ntmps38
  cases ha : rdI a with
  | none =>
    have hva := rd_none ha
    have HA := Lib.hid ha
    clear ha
    go_wp2_with (go_at_call 47; (with_reducible refine (valid_any _ _).mono ?_); rintro e W1 ⟨rfl, hb1⟩; obtain ⟨s1, s2, hbw⟩ := FIN.out W1 hb1; have hf0 := s1.frozen 0; have hf1 := s1.frozen 1; have hg0 := s2.frozen 0; have hg1 := s2.frozen 1; have hc0 := s1.cell0; have hc1 := s1.cell1; have hd0 := s2.cell0; have hd1 := s2.cell1)
    obtain ⟨t1, t2, t3, -⟩ := two_boxes hbw s1 s2 false false none none 0 0 0 0 _ rfl
    have e1 := t1.cell0
    have e2 := t1.cell1
    have e3 := t2.cell0
    have e4 := t2.cell1
    refine bodyPost_ret (v := .tuple #[nilS, nilS, .bool false]) (by simp [results, nilS, Tryz.results38, go_sem, e1, e2, e3, e4]) rfl ⟨t3, .inr ⟨.inl HA.out, rfl⟩⟩
  | some x =>
    have hva := (rd_valid ha).1
    have HA := Lib.hid ha
    clear ha
    cases hb : rdI b with
    | none =>
      have hvb := rd_none hb
      have HB := Lib.hid hb
      clear hb
      go_wp2_with (first
        | (go_at_call 47; (with_reducible refine (valid_any a _).mono ?_); rintro e W1 ⟨rfl, hb1⟩)
        | (go_at_call 47; (with_reducible refine (valid_any b _).mono ?_); rintro e W2 ⟨rfl, hb2⟩; obtain ⟨s1, s2, hbw⟩ := FIN.out W2 (below_up hb1 hb2); have hf0 := s1.frozen 0; have hf1 := s1.frozen 1; have hg0 := s2.frozen 0; have hg1 := s2.frozen 1; have hc0 := s1.cell0; have hc1 := s1.cell1; have hd0 := s2.cell0; have hd1 := s2.cell1))
      obtain ⟨t1, t2, t3, -⟩ := two_boxes hbw s1 s2 false false none none 0 0 0 0 _ rfl
      have e1 := t1.cell0
      have e2 := t1.cell1
      have e3 := t2.cell0
      have e4 := t2.cell1
      refine bodyPost_ret (v := .tuple #[nilS, nilS, .bool false]) (by simp [results, nilS, Tryz.results38, go_sem, e1, e2, e3, e4]) rfl ⟨t3, .inr ⟨.inr HB.out, rfl⟩⟩
    | some y =>
      have hvb := (rd_valid hb).1
      have HB := Lib.hid hb
      clear hb
      go_wp2_with (first
        | (go_at_call 47; (with_reducible refine (valid_any a _).mono ?_); rintro e W1 ⟨rfl, hb1⟩)
        | (go_at_call 47; (with_reducible refine (valid_any b _).mono ?_); rintro e W2 ⟨rfl, hb2⟩)
        | (go_at_call 59; (with_reducible refine (parse_rd HA.out _).mono ?_); rintro e W3 ⟨⟨u, rfl, hu⟩, hb3⟩)
        | (go_at_call 59; (with_reducible refine (parse_rd HB.out _).mono ?_); rintro e W4 ⟨⟨v, rfl, hv⟩, hb4⟩; obtain ⟨A1, c1, rfl, hr1⟩ := hu; obtain ⟨A2, c2, rfl, hr2⟩ := hv; obtain ⟨s1, s2, hbw⟩ := FIN.out W4 (below_up (below_up (below_up hb1 hb2) hb3) hb4); have hf0 := s1.frozen 0; have hf1 := s1.frozen 1; have hg0 := s2.frozen 0; have hg1 := s2.frozen 1; have hc0 := s1.cell0; have hc1 := s1.cell1; have hd0 := s2.cell0; have hd1 := s2.cell1))
      obtain ⟨t1, t2, t3, t4⟩ := two_boxes hbw s1 s2 (decide (x < 0)) (decide (y < 0)) A1 A2 (dg 10000 x.natAbs).length (dg 10000 y.natAbs).length c1 c2 _ rfl
      have e1 := t1.cell0
      have e2 := t1.cell1
      have e3 := t2.cell0
      have e4 := t2.cell1
      refine bodyPost_ret (v := .tuple #[.agg #[.bool (decide (x < 0)), .slice A1 (dg 10000 x.natAbs).length c1], .agg #[.bool (decide (y < 0)), .slice A2 (dg 10000 y.natAbs).length c2], .bool true]) (by simp [results, Tryz.results38, go_sem, e1, e2, e3, e4]) rfl
        ⟨t3, .inl ⟨x, y, _, _, HA.out, HB.out, rfl, ⟨A1, c1, rfl, t4 _ _ (hr1.below hb4)⟩, ⟨A2, c2, rfl, t4 _ _ hr2⟩⟩⟩

end Go.Proofs.YtcpkejpdpohfeaaGreatDoor
