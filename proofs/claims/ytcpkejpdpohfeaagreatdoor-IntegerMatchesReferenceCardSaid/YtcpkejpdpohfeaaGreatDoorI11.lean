/- The walk of package integer's 'text'. Conditions: sizes; the tables that strconv.Itoa reads. -/
import Derived.Test.YtcpkejpdpohfeaaGreatDoorI10
import Derived.Lib.AppendIntMem
namespace Go.Proofs.YtcpkejpdpohfeaaGreatDoor
open Go.RowKit Num
open Go.Shelf
attribute [local go_sem] Oper.semAt_some

/-- The call returns a text that reads as l. -/
def RetS (w : World) (l : List UInt8) (e : Ending) (w' : World) : Prop := ∃ s : ByteArray, e = .returned (.string s) ∧ Hid (s = ⟨l.toArray⟩) ∧ Hid (s.size = l.length) ∧ Below w.heap.size w w'
theorem itoa_any (d : Nat) (hd : d ≤ 9223372036854775807) (w : World) (hL : Laid w) : Calls Tryz.prog 58 #[.int .i64 d] w (RetS w (Lib.decDigits d)) := by
  refine (Tryz.strconv_Itoa (d : Int) (by omega) (by omega) w hL.1).mono ?_
  rintro e w' ⟨rfl, k, os, rfl⟩
  exact ⟨_, rfl, by rw [itoa_pos]; exact rfl, Lib.hid (by rw [itoa_pos]; simp [ByteArray.size]), Lib.below_grow _ _ (Nat.le_refl _) _ _⟩
theorem rep_any (c : Nat) (hc : c ≤ 4) (w : World) : Calls Tryz.prog 61 #[.string ⟨#[48]⟩, .int .i64 c] w (RetS w (Lib.repeatL [48] c)) := by
  refine (Tryz.strings_Repeat ⟨#[48]⟩ c w (by omega) (by have : (⟨#[48]⟩ : ByteArray).size = 1 := rfl; rw [this]; omega)).mono ?_
  rintro e w' ⟨rfl, hb⟩
  exact ⟨_, rfl, rfl, Lib.hid (by simp [ByteArray.size]), hb⟩

theorem ws_turn {z : Nat} {Wl W W2 W3 : World} (hWl : Wl.heap.size = z + 3) (hb2 : ∃ u, Boxed Wl (z + 2) 48 u) (ht : Turn [z + 1] Wl W) (h2 : Below W.heap.size W W2) (h3 : Below (z + 1) W2 W3)
    (ho : Lib.OthersKept 5 (some (z + 1)) W2 W3) : Turn [z + 1] Wl W3 ∧ KeepsFrom Wl.heap.size W W3 := by
  have hT2 : Turn [z + 1] Wl W2 := ht.trans (Turn.of_below h2)
  refine ⟨⟨h3.os.trans hT2.os, h3.tape.trans hT2.tape, h3.output.trans hT2.output, Nat.le_trans hT2.size h3.size, ?_⟩, ⟨Nat.le_trans h2.size h3.size, ?_⟩⟩
  · intro k hk hX
    have hX' : k ≠ z + 1 := by simpa using hX
    rcases Nat.lt_or_ge k (z + 1) with h | h
    · exact (h3.block k h).trans (hT2.block k hk hX)
    · obtain rfl : k = z + 2 := by omega
      obtain ⟨u, hu⟩ := hb2
      have hu2 : W2.heap[z + 2]? = some (.cells #[u] 48 (0, 0)) := (hT2.block _ hk hX).trans hu
      rw [show Wl.heap[z + 2]? = _ from hu]
      exact ho _ _ hu2 (by simp) (fun c fz e => by cases e)
  · intro k o hk hko hc
    have h5 : W2.heap[k]? = some o := (h2.block k (Array.getElem?_eq_some_iff.1 hko).1).trans hko
    exact ho k o h5 (fun e => by cases e; omega) (fun c fz e => by subst e; cases hc)

def sgn (neg : Bool) (n : Nat) : Int := if neg then -(n : Int) else n
theorem sgn_abs (neg : Bool) (n : Nat) : (sgn neg n).natAbs = n := by unfold sgn; cases neg <;> simp
theorem out_big {neg : Bool} {n : Nat} (h : 200 < (Lib.decDigits n).length) : outI (sgn neg n) = (⟨#[]⟩, 30) := by
  refine outI_no ?_
  rw [sgn_abs]
  intro h2
  have := (dec_len_iff (k := 200) (u := n) (by omega)).2 h2
  omega
theorem out_pos {n : Nat} (h : (Lib.decDigits n).length ≤ 200) : outI (sgn false n) = (⟨(Lib.decDigits n).toArray⟩, 0) := by
  rw [outI_ok (by rw [sgn_abs]; exact (dec_len_iff (by omega)).1 h)]
  unfold tx sgn
  rw [if_neg (by simp), itoa_pos]
theorem out_neg {n : Nat} (h0 : 0 < n) (h : (Lib.decDigits n).length ≤ 200) : outI (sgn true n) = (⟨(45 :: Lib.decDigits n).toArray⟩, 0) := by
  rw [outI_ok (by rw [sgn_abs]; exact (dec_len_iff (by omega)).1 h)]
  unfold tx sgn
  rw [if_pos rfl, itoa_neg (by omega)]
  simp

theorem out_zero (neg : Bool) : outI (sgn neg 0) = (⟨#[48]⟩, 0) := by
  have e : sgn neg 0 = ((0 : Nat) : Int) := by unfold sgn; cases neg <;> rfl
  rw [e, outI_ok (by decide)]
  unfold tx
  rw [itoa_pos, dec_small (by omega)]
  rfl
def RetOut (w : World) (z : Int) (e : Ending) (w' : World) : Prop := e = .returned (.tuple #[.string (outI z).1, .int .i64 (outI z).2]) ∧ Below w.heap.size w w'

set_option maxHeartbeats 1000000 in
set_option maxRecDepth 100000 in
theorem text_any (neg : Bool) (n : Nat) (v : Value) (w : World) (hv : Rd w v (dg 10000 n)) (hL : Laid w) :
    Calls Tryz.prog 40 #[.agg #[.bool neg, v]] w (RetOut w (sgn neg n)) := by
  have HV := Lib.hid hv
  have HL := Lib.hid hL
  clear hL
  rcases Nat.eq_zero_or_pos n with rfl | h0
  · obtain ⟨A, c, rfl, -, -, -⟩ := hv
    rw [dg_zero]
    simp only [List.length_nil]
    go_enter Tryz.func40, Tryz.ntmps40
    go_wp2
    go_ret2
    exact ⟨by rw [out_zero]; rfl, below1 _ _⟩
  · have BK := fun W (h : Rd W v (dg 10000 n)) => backward_any v (dg 10000 n) W h
    obtain ⟨A, c, rfl, -, hm, -⟩ := hv
    have hlp : 0 < ((dg 10000 n).length : Int) := by
      have : dg 10000 n ≠ [] := fun e => by rw [dg_eq_nil (by omega)] at e; omega
      have := List.length_pos_iff.2 this
      omega
    refine (callsIn_wide (n := 6)).1 ?_
    refine callsIn_of_wp_marks Tryz.func40 rfl trivial ?_ rfl
    simp only [Tryz.ntmps40, List.size_toArray, List.length_cons, List.length_nil, Nat.reduceAdd, Nat.reduceSub, Array.replicate_succ, Array.replicate_zero, List.push_toArray, List.append_toArray, List.nil_append, List.cons_append]
    gi_wp2_with (refine ⟨trivial, ?_⟩; gi_at_call 60; refine (callsIn_wide.2 (BK _ (HV.out.below (below2 _ _ _)))).mono ?_; rintro e w' ⟨rfl, rfl⟩)
    obtain ⟨W0, hW0⟩ : ∃ W0, (((w.alloc (.cells #[.bool neg, .slice A (dg 10000 n).length c] 50)).alloc (.cells #[.pointer none, .slice none 0 0] 76)).alloc (.cells #[.slice A (dg 10000 n).length c] 48)) = W0 := ⟨_, rfl⟩
    have hsz : W0.heap.size = w.heap.size + 3 := by rw [← hW0]; simp
    have hB0 : Below w.heap.size w W0 := by rw [← hW0]; exact below3 _ _ _ _
    have hx0 : W0.heap[w.heap.size]? = some (.cells #[.bool neg, .slice A (dg 10000 n).length c] 50 (0, 0)) := by
      have h1 := World.alloc_heap_new w (.cells #[.bool neg, .slice A (dg 10000 n).length c] 50)
      rw [← hW0]; exact ((below2 _ _ _).block _ (by simp)).trans h1
    have hbd0 : Lib.IsBuilderF 76 5 (w.heap.size + 1) (w.heap.size + 1) (Lib.byteCells (tb n [])) W0 := by
      rw [← hW0, show Lib.byteCells (tb n []) = [] from rfl]
      have := isBuilder_below (isBuilder_new (w.alloc (.cells #[.bool neg, .slice A (dg 10000 n).length c] 50))) (below1 _ (.cells #[.slice A (dg 10000 n).length c] 48))
      simpa using this
    have bl : Boxed W0 (w.heap.size + 2) 48 (.slice A (dg 10000 n).length c) := by
      rw [← hW0]; have := Boxed.new ((w.alloc (.cells #[.bool neg, .slice A (dg 10000 n).length c] 50)).alloc (.cells #[.pointer none, .slice none 0 0] 76)) 48 (.slice A (dg 10000 n).length c)
      simpa using this
    rw [hW0]
    clear hW0
    refine range_backT (by omega) (Bs := w.heap.size + 2) (v := .slice A (dg 10000 n).length c) (xs := dg 10000 n) rfl bl.cell (HV.out.below hB0) rfl w hB0 [w.heap.size + 1]
      (fun k hk => by
        rw [List.mem_singleton] at hk; subst hk
        exact ⟨by omega, by omega, by omega, fun e => by have := HV.out.row_lt e; omega⟩)
      (fun pre W => Lib.IsBuilderF 76 5 (w.heap.size + 1) (w.heap.size + 1) (Lib.byteCells (tb n pre)) W ∧ W.heap[w.heap.size]? = some (.cells #[.bool neg, .slice A (dg 10000 n).length c] 50 (0, 0)))
      (fun _ _ _ => False)
      (fun s X Y hs _ hk => ⟨isBuilder_co hk hs.1, hk _ _ hs.2 rfl⟩)
      (fun _ _ _ _ hs _ _ => hs)
      ⟨hbd0, hx0⟩
      (fun x => { tmps := #[.agg #[.bool neg, .slice A (dg 10000 n).length c], .pointer (some ⟨w.heap.size, 0, none⟩), .string ⟨#[]⟩, .int .i64 0, .pointer (some ⟨w.heap.size + 1, 0, none⟩), .int .i64 (x.1 : Nat), .int .i64 (nth (dg 10000 n) x.1), undef, undef, .pointer (some ⟨w.heap.size, 1, none⟩), .slice A (dg 10000 n).length c, .int .i64 ((dg 10000 n).length : Nat), .bool false, .pointer (some ⟨w.heap.size, 1, none⟩), .slice A (dg 10000 n).length c, .func (.func 78) #[] #[.pointer (some ⟨w.heap.size + 2, 0, none⟩)], .int .i64 (x.1 : Nat), .int .i64 (nth (dg 10000 n) x.1), undef, undef, undef, undef, undef, undef, undef, undef, undef, undef, undef, undef, undef, undef, undef, undef, undef, undef, undef, undef, undef, undef, undef, undef, undef], defers := [] }) ?assign ?body ?done ?stop
    case assign =>
      intro l x W K hK
      gi_wp2
      exact hK
    case body =>
      rintro l pre x W ⟨hbd, hx⟩ hbW htW hlen
      have hd := dgn_le n x.1
      have htl := tb_len n pre
      have hxl := x.2
      have hdl := dec_len (k := 4) (u := dgn n x.1) (by omega) (by omega)
      have HSN := Lib.hid (tb_snoc n pre x)
      have HGT : Hid (gt n x = if x.1 < (dg 10000 n).length - 1 then pad 4 (dgn n x.1) else Lib.decDigits (dgn n x.1)) := Lib.hid rfl
      rw [dgn_eq]
      generalize dgn n x.1 = d at *
      generalize gt n x = g at *
      have HPD := Lib.hid (pad_text hd)
      have HL1 := Lib.hid (HL.out.below hbW)
      have HBD := Lib.hid hbd
      have HW1 := Lib.hid (fun (W2 W3 : World) => ws_turn (W2 := W2) (W3 := W3) hsz ⟨_, bl⟩ htW)
      have hxc : W.cell? ⟨w.heap.size, 1, none⟩ = some (.slice A (dg 10000 n).length c) := by simp [World.cell?, hx]
      have HX := Lib.hid hx
      have HBL := Lib.hid bl
      have hlen1 : pre.length ≤ 1000000 := by omega
      have hzW := htW.size
      clear hx hbd hbd0 hx0 bl BK htW
      have hzs := hbW.size
      have fin : ∀ (W2 : World) (t : ByteArray), Below W.heap.size W W2 → t.data.toList = g → ∀ W3, Lib.BuilderAtF 76 5 (w.heap.size + 1) (w.heap.size + 1) (.pointer (some ⟨w.heap.size + 1, 0, none⟩)) (Lib.byteCells (tb n pre) ++ Lib.strCells t) W3 → Below (w.heap.size + 1) W2 W3 → Lib.OthersKept 5 (some (w.heap.size + 1)) W2 W3 →
          Turn [w.heap.size + 1] W0 W3 ∧ KeepsFrom W0.heap.size W W3 ∧ Lib.IsBuilderF 76 5 (w.heap.size + 1) (w.heap.size + 1) (Lib.byteCells (tb n (pre ++ [x]))) W3 ∧ W3.heap[w.heap.size]? = some (.cells #[.bool neg, .slice A (dg 10000 n).length c] 50 (0, 0)) := by
        intro W2 t h2 ht W3 h3 h4 h5
        have h6 := HW1.out W2 W3 h2 h4 h5
        refine ⟨h6.1, h6.2, .inr ?_, ?_⟩
        · rw [HSN.out, Lib.byteCells_append, ← ht, ← Lib.strCells_eq]; exact h3
        · exact (h4.block _ (by omega)).trans ((h2.block _ (Array.getElem?_eq_some_iff.1 HX.out).1).trans HX.out)
      have FIN := Lib.hid fin
      clear fin HW1
      by_cases hcx : x.1 < (dg 10000 n).length - 1
      · have hci : ((x.1 : Nat) : Int) < ((dg 10000 n).length : Int) - 1 := by omega
        have hwl : IntKind.i64.wrap (((dg 10000 n).length : Int) - 1) = ((dg 10000 n).length : Int) - 1 := IntWalk.i64_in _ (by omega)
        have HG2 := Lib.hid ((HGT.out.trans (if_pos hcx)).trans HPD.out.symm)
        clear HGT HPD hcx
        gi_wp2_with (first
          | (refine ⟨trivial, ?_⟩; gi_at_call 58; (with_reducible refine (CallsIn.inRound l (callsIn_wide.2 (itoa_any d (by omega) _ HL1.out))).mono ?_); rintro e W1 ⟨s1, rfl, hs1, hz1, hb1⟩; have hxc1 := (hb1.cell (cell_lt hxc)).trans hxc; have hz4 : s1.size ≤ 4 := Nat.le_trans (Nat.le_of_eq hz1.out) hdl; have hw4 : IntKind.i64.wrap (4 - (s1.size : Int)) = ((4 - s1.size : Nat) : Int) := (IntWalk.i64_in _ (by omega)).trans (by omega))
          | (refine ⟨trivial, ?_⟩; gi_at_call 61; (with_reducible refine (CallsIn.inRound l (callsIn_wide.2 (rep_any _ (by omega) _))).mono ?_); rintro e W2 ⟨s2, rfl, hs2, hz2, hb2⟩; have hz5 : s2.size ≤ 4 := (by have e1 := hz2.out; rw [rep_eq, List.length_replicate] at e1; omega); have hz6 : ¬ 9223372036854775807 < s2.size + s1.size := (by omega); have hb12 := Nat.le_trans hb1.size hb2.size)
          | (refine ⟨trivial, ?_⟩; gi_at_call 62; (with_reducible refine (CallsIn.inRound l (callsIn_wide.2 (ws_k (w.heap.size + 1) (w.heap.size + 1) _ (s2 ++ s1) W2 (isBuilder_below (isBuilder_below HBD.out hb1) hb2) (by rw [Lib.byteCells_length, ByteArray.size_append]; omega) (by omega)))).mono ?_); rintro e W3 ⟨rfl, h3, h4, h5⟩))
        exact FIN.out W2 (s2 ++ s1) (below_up hb1 hb2) (by rw [HG2.out, ← hz1.out, ByteArray.data_append, Array.toList_append, hs2.out, hs1.out]) W3 h3 h4 h5
      · have hci : ¬ ((x.1 : Nat) : Int) < ((dg 10000 n).length : Int) - 1 := by omega
        have hwl : IntKind.i64.wrap (((dg 10000 n).length : Int) - 1) = ((dg 10000 n).length : Int) - 1 := IntWalk.i64_in _ (by omega)
        have HG2 := Lib.hid (HGT.out.trans (if_neg hcx))
        clear HGT HPD hcx
        gi_wp2_with (first
          | (refine ⟨trivial, ?_⟩; gi_at_call 58; (with_reducible refine (CallsIn.inRound l (callsIn_wide.2 (itoa_any d (by omega) _ HL1.out))).mono ?_); rintro e W1 ⟨s1, rfl, hs1, hz1, hb1⟩; have hxc1 := (hb1.cell (cell_lt hxc)).trans hxc; have hz4 : s1.size ≤ 4 := Nat.le_trans (Nat.le_of_eq hz1.out) hdl; have hb12 := hb1.size)
          | (refine ⟨trivial, ?_⟩; gi_at_call 62; (with_reducible refine (CallsIn.inRound l (callsIn_wide.2 (ws_k (w.heap.size + 1) (w.heap.size + 1) _ s1 W1 (isBuilder_below HBD.out hb1) (by rw [Lib.byteCells_length]; omega) (by omega)))).mono ?_); rintro e W3 ⟨rfl, h3, h4, h5⟩))
        exact FIN.out W1 s1 hb1 (by rw [HG2.out, hs1.out]) W3 h3 h4 h5
    case done =>
      rintro D W hD ⟨hbd, hx⟩ hbW htW hK
      rw [tb_all h0] at hbd
      have hxc : W.cell? ⟨w.heap.size, 0, none⟩ = some (.bool neg) := by simp [World.cell?, hx]
      have HBD := Lib.hid hbd
      have HK := Lib.hid hK
      have hzs := hbW.size
      have hzW := htW.size
      have HO := Lib.hid (out_big (neg := neg) (n := n))
      have HP := Lib.hid (out_pos (n := n))
      have HN := Lib.hid (out_neg (n := n) h0)
      clear hx hbd hbd0 hx0 bl BK htW hm hK
      have ST := Lib.hid (Tryz.Builder_String_any_k (w.heap.size + 1) (w.heap.size + 1) (Lib.decDigits n) W HBD.out (by omega))
      have fin : ∀ W', Below (w.heap.size + 1) W W' → Lib.OthersKept 5 (some (w.heap.size + 1)) W W' → W'.heap[D]? = some (.deferred (some [])) ∧ Below w.heap.size w (W'.putObj D (.deferred none)) := by
        intro W' h1 h2
        refine ⟨h2 _ _ HK.out (by simp; omega) (fun c fz e => by cases e), below_mark (hbW.trans (h1.mono (by omega))) (Nat.le_refl _) (by omega)⟩
      have FIN := Lib.hid fin
      clear fin
      obtain ⟨s, hs⟩ : ∃ s : ByteArray, s = ⟨(Lib.decDigits n).toArray⟩ := ⟨_, rfl⟩
      have hsz' : s.size = (Lib.decDigits n).length := by rw [hs]; simp [ByteArray.size]
      rw [← hs] at ST
      have HS := Lib.hid hs
      clear hs
      by_cases h200 : 200 < (Lib.decDigits n).length
      · have hc : (200 : Int) < (s.size : Int) := by omega
        have HR := Lib.hid (HO.out h200)
        clear hsz' h200 HO HP HN
        gi_wp2_with (refine ⟨trivial, ?_⟩; gi_at_call 63; (with_reducible refine (callsIn_wide.2 ST.out).mono ?_); rintro e W1 ⟨rfl, -, hb1, ho1⟩; obtain ⟨hk1, hbk⟩ := FIN.out W1 hb1 ho1; have HK1 := Lib.hid hk1; have HBK := Lib.hid hbk; clear hk1 hbk)
        refine ⟨by simp, .inl ⟨_, _, rfl, run_takeDeferred HK1.out, ?_⟩⟩
        exact ⟨.tuple #[_, _], results_tmp2 rfl _ _ _, by rw [HR.out]; rfl, HBK.out⟩
      · have hc : ¬ (200 : Int) < (s.size : Int) := by omega
        cases neg with
        | false =>
          have HR := Lib.hid (HP.out (by omega))
          rw [← HS.out] at HR
          clear hsz' h200 HO HP HN
          gi_wp2_with (refine ⟨trivial, ?_⟩; gi_at_call 63; (with_reducible refine (callsIn_wide.2 ST.out).mono ?_); rintro e W1 ⟨rfl, -, hb1, ho1⟩; obtain ⟨hk1, hbk⟩ := FIN.out W1 hb1 ho1; have HK1 := Lib.hid hk1; have HBK := Lib.hid hbk; have hxc1 := (hb1.cell (p := ⟨w.heap.size, 0, none⟩) (by simp)).trans hxc; clear hk1 hbk)
          refine ⟨by simp, .inl ⟨_, _, rfl, run_takeDeferred HK1.out, ?_⟩⟩
          exact ⟨.tuple #[_, _], results_tmp2 rfl _ _ _, by rw [HR.out]; rfl, HBK.out⟩
        | true =>
          have HR := Lib.hid (HN.out (by omega))
          have hcat : ¬ 9223372036854775807 < 1 + s.size := by omega
          have hcat' : ¬ 9223372036854775807 < (⟨#[45]⟩ : ByteArray).size + s.size := hcat
          have HE : Hid ((⟨(45 :: Lib.decDigits n).toArray⟩ : ByteArray) = ⟨#[45]⟩ ++ s) := by
            rw [HS.out]; exact ByteArray.ext (by rw [ByteArray.data_append]; simp)
          rw [HE.out] at HR
          clear hsz' h200 HO HP HN HE
          gi_wp2_with (refine ⟨trivial, ?_⟩; gi_at_call 63; (with_reducible refine (callsIn_wide.2 ST.out).mono ?_); rintro e W1 ⟨rfl, -, hb1, ho1⟩; obtain ⟨hk1, hbk⟩ := FIN.out W1 hb1 ho1; have HK1 := Lib.hid hk1; have HBK := Lib.hid hbk; have hxc1 := (hb1.cell (p := ⟨w.heap.size, 0, none⟩) (by simp)).trans hxc; clear hk1 hbk)
          refine ⟨by simp, .inl ⟨_, _, rfl, run_takeDeferred HK1.out, ?_⟩⟩
          exact ⟨.tuple #[_, _], results_tmp2 rfl _ _ _, by rw [HR.out]; rfl, HBK.out⟩
    case stop =>
      rintro D cd pre W hD hSp h hbW hK
      exact h.elim

end Go.Proofs.YtcpkejpdpohfeaaGreatDoor
