/- Package integer's 'text': the decimal text of groups of digits. Conditions: sizes; the tables that strconv.Itoa reads. The walk of package integer's 'text'. Conditions: sizes; the tables that strconv.Itoa reads. Texts of digits: what 'TrimPrefix', 'Trim', 'Atoi' and pieces of four digits come to. No program here. Conditions: none. The walk of package integer's 'isValid'. Conditions: none. The walk of package integer's 'parse'. Conditions: the text is valid. The walk of package integer's 'both'. Conditions: none. -/
import Derived.Test.YtffndcjmabjhiaaGreatDoorI9
import Derived.Test.YtffndcjmabjhiaaGreatDoorShelf
import Derived.Shelf.Strings.BuilderK
import Derived.WalkSmall
import Derived.Lib.AppendIntMem
import Derived.Test.YtffndcjmabjhiaaGreatDoorK1
import Derived.Lib.Strings
import Derived.Lib.SlTrimSet
import Derived.Lib.AtoiAll
import Derived.Lib.IndexBytes
import Derived.Lib.AtoiErrMem
namespace Go.Proofs.YtffndcjmabjhiaaGreatDoor
open Go.RowKit Num
open Go.Shelf
attribute [local go_sem] Oper.semAt_some

/-- What the library's calls read of the package-level variables. -/
def Laid (w : World) : Prop := Lib.TabIs Tryz.prog w "internal/strconv.uint64pow10" .u64 Lib.pow10Tab ∧
  ∃ t1 p1 t2 p2, w.var? Tryz.prog "strconv.ErrSyntax" = some #[.iface t1 p1] ∧ w.var? Tryz.prog "strconv.ErrRange" = some #[.iface t2 p2]

theorem var_up {w w' : World} {n : String} {cs : Array Value} (hb : Below w.heap.size w w') (h : w.var? Tryz.prog n = some cs) : w'.var? Tryz.prog n = some cs := by
  unfold World.var? at h ⊢
  cases hg : Tryz.prog.globalNamed n with
  | none => rw [hg] at h; cases h
  | some g =>
    rw [hg] at h
    simp only [Option.bind_some] at h ⊢
    cases ho : w.heap[g]? with
    | none => rw [ho] at h; cases h
    | some o => rw [hb.block g (Array.getElem?_eq_some_iff.1 ho).1]; exact h
theorem Laid.below {w w' : World} (h : Laid w) (hb : Below w.heap.size w w') : Laid w' :=
  let ⟨h1, t1, p1, t2, p2, h2, h3⟩ := h
  ⟨var_up hb h1, t1, p1, t2, p2, var_up hb h2, var_up hb h3⟩

/-! ### The text of groups of digits -/
def gt (n : Nat) (x : Fin (dg 10000 n).length) : List UInt8 := if x.1 < (dg 10000 n).length - 1 then pad 4 (dgn n x.1) else Lib.decDigits (dgn n x.1)
def tb (n : Nat) (pre : List (Fin (dg 10000 n).length)) : List UInt8 := pre.foldl (fun s x => s ++ gt n x) []
theorem tb_snoc (n : Nat) (pre : List (Fin (dg 10000 n).length)) (x : Fin (dg 10000 n).length) : tb n (pre ++ [x]) = tb n pre ++ gt n x := by unfold tb; rw [List.foldl_append]; rfl
theorem pad_len : ∀ (k r : Nat), (pad k r).length = k
  | 0, r => rfl
  | k + 1, r => by rw [pad, List.length_append, pad_len k]; rfl
theorem gt_len (n : Nat) (x : Fin (dg 10000 n).length) : (gt n x).length ≤ 4 := by
  unfold gt
  split
  · rw [pad_len]; exact Nat.le_refl _
  · exact dec_len (by omega) (by have := dgn_le n x.1; omega)
theorem tb_len_gen (n : Nat) : ∀ (pre : List (Fin (dg 10000 n).length)) (s : List UInt8), (pre.foldl (fun s x => s ++ gt n x) s).length ≤ s.length + 4 * pre.length
  | [], s => by simp
  | x :: pre, s => by
    rw [List.foldl_cons]
    have h1 := tb_len_gen n pre (s ++ gt n x)
    have h2 := gt_len n x
    rw [List.length_append] at h1
    rw [List.length_cons]
    omega
theorem tb_len (n : Nat) (pre : List (Fin (dg 10000 n).length)) : (tb n pre).length ≤ 4 * pre.length := by
  have := tb_len_gen n pre []
  unfold tb
  simpa using this
theorem dgn_last {n : Nat} (h : 0 < (dg 10000 n).length) : 0 < dgn n ((dg 10000 n).length - 1) := by
  have hl := dg_last (B := 10000) (by omega) n
  have he := dgn_eq n ((dg 10000 n).length - 1)
  rcases Nat.eq_zero_or_pos (dgn n ((dg 10000 n).length - 1)) with h0 | h0
  · exfalso
    rw [h0] at he
    apply hl
    rw [List.getLast?_eq_getElem?]
    unfold nth at he
    rw [List.getElem?_eq_getElem (by omega)] at he ⊢
    simp only [Option.getD_some] at he
    rw [he]
    rfl
  · exact h0
theorem tb_down (n : Nat) : ∀ k, k + 1 ≤ (dg 10000 n).length → 0 < tm 1 n (down (dg 10000 n).length (k + 1)) ∧ tb n (down (dg 10000 n).length (k + 1)) = Lib.decDigits (tm 1 n (down (dg 10000 n).length (k + 1)))
  | 0, h => by
    rw [down_succ h, tm_snoc, tb_snoc]
    have h1 := dgn_last (n := n) h
    have e1 : tm 1 n (down (dg 10000 n).length 0) = 0 := rfl
    have e2 : tb n (down (dg 10000 n).length 0) = [] := rfl
    rw [e1, e2]
    simp only [Nat.sub_zero, Nat.zero_mul, Nat.one_mul, Nat.zero_add, List.nil_append]
    refine ⟨h1, ?_⟩
    unfold gt
    rw [if_neg (by simp)]
  | k + 1, h => by
    have ih := tb_down n k (by omega)
    rw [down_succ (show k + 1 < (dg 10000 n).length from h), tm_snoc, tb_snoc, ih.2]
    have hd := dgn_le n ((dg 10000 n).length - 1 - (k + 1))
    refine ⟨by have := ih.1; omega, ?_⟩
    unfold gt
    rw [if_pos (by show (dg 10000 n).length - 1 - (k + 1) < (dg 10000 n).length - 1; omega), Nat.one_mul]
    exact (dec_pad ih.1 4 _ (show dgn n ((dg 10000 n).length - 1 - (k + 1)) < 10 ^ 4 by omega)).symm
theorem tb_all {n : Nat} (h : 0 < n) : tb n (down (dg 10000 n).length (dg 10000 n).length) = Lib.decDigits n := by
  have hl : 0 < (dg 10000 n).length := by
    have : dg 10000 n ≠ [] := fun e => by rw [dg_eq_nil (by omega)] at e; omega
    exact List.length_pos_iff.2 this
  obtain ⟨k, hk⟩ : ∃ k, (dg 10000 n).length = k + 1 := ⟨(dg 10000 n).length - 1, by omega⟩
  have h1 := (tb_down n k (by omega)).2
  rw [← hk, tm_all, Nat.one_mul] at h1
  exact h1
theorem rep_eq (c : UInt8) : ∀ k, Lib.repeatL [c] k = List.replicate k c
  | 0 => rfl
  | k + 1 => by rw [Lib.repeatL, rep_eq c k]; rfl
/-- The text of a group that stands behind another. -/
theorem pad_text {d : Nat} (h : d ≤ 9999) : Lib.repeatL [48] (4 - (Lib.decDigits d).length) ++ Lib.decDigits d = pad 4 d := by
  rw [rep_eq, pad_eq 4 d (by omega) (by omega)]

/-! ### The builder -/
theorem ws_k (B b : Nat) (bs : List Value) (s : ByteArray) (w : World) (h : Lib.IsBuilderF 208 5 B b bs w) (hlen : bs.length + s.size ≤ 140737488355328) (hBw : B ≤ w.heap.size) :
    Calls Tryz.prog 156 #[.pointer (some ⟨b, 0, none⟩), .string s] w fun e w' => e = .returned (.tuple #[.int .i64 s.size, .nilIface]) ∧
      (Lib.BuilderAtF 208 5 B b (.pointer (some ⟨b, 0, none⟩)) (bs ++ Lib.strCells s) w' ∧ Below B w w' ∧ Lib.OthersKept 5 (some b) w w') :=
  Any.Builder_WriteString_k (ρ := Tryz.lays105_ren) { Tryz.lays105 with } Tryz.Builder_Extra_105 B b bs s w h hlen hBw

theorem isBuilder_co {W W' : World} (h : ∀ (k : Nat) (o : Obj), W.heap[k]? = some o → o.isCells = true → W'.heap[k]? = some o) {T e : TypeId} {B b : Nat} {bs : List Value} (hb : Lib.IsBuilderF T e B b bs W) : Lib.IsBuilderF T e B b bs W' := by
  have one : ∀ p, Lib.BuilderAtF T e B b p bs W → Lib.BuilderAtF T e B b p bs W' := by
    rintro p ⟨hB, v, h1, h2, h3⟩
    refine ⟨hB, v, h _ _ h1 rfl, ⟨h2.1, ?_⟩, h3⟩
    rcases h2.2 with h4 | ⟨g, cap, cur, fz, h5, h6, h7, h8⟩
    · exact .inl h4
    · exact .inr ⟨g, cap, cur, fz, h5, h6, h _ _ h7 rfl, h8⟩
  exact hb.elim (fun x => .inl (one _ x)) (fun x => .inr (one _ x))
theorem isBuilder_new (W : World) : Lib.IsBuilderF 208 5 W.heap.size W.heap.size [] (W.alloc (.cells #[.pointer none, .slice none 0 0] 208)) :=
  .inl ⟨Nat.le_refl _, _, World.alloc_heap_new W _, World.ownsRowF_nil _ _ _ _, by simp [Value.ownBlock]⟩
theorem isBuilder_below {W W' : World} {T e : TypeId} {B b : Nat} {bs : List Value} (hb : Lib.IsBuilderF T e B b bs W) (h : Below W.heap.size W W') : Lib.IsBuilderF T e B b bs W' :=
  isBuilder_co (fun k _ ho _ => (h.block k (Array.getElem?_eq_some_iff.1 ho).1).trans ho) hb

end Go.Proofs.YtffndcjmabjhiaaGreatDoor

namespace Go.Proofs.YtffndcjmabjhiaaGreatDoor
open Go.RowKit Num
open Go.Shelf
attribute [local go_sem] Oper.semAt_some

/-- The call returns a text that reads as l. -/
def RetS (w : World) (l : List UInt8) (e : Ending) (w' : World) : Prop := ∃ s : ByteArray, e = .returned (.string s) ∧ Hid (s = ⟨l.toArray⟩) ∧ Hid (s.size = l.length) ∧ Below w.heap.size w w'
theorem itoa_any (d : Nat) (hd : d ≤ 9223372036854775807) (w : World) (hL : Laid w) : Calls Tryz.prog 249 #[.int .i64 d] w (RetS w (Lib.decDigits d)) := by
  refine (Tryz.strconv_Itoa (d : Int) (by omega) (by omega) w hL.1).mono ?_
  rintro e w' ⟨rfl, k, os, rfl⟩
  exact ⟨_, rfl, by rw [itoa_pos]; exact rfl, Lib.hid (by rw [itoa_pos]; simp [ByteArray.size]), Lib.below_grow _ _ (Nat.le_refl _) _ _⟩
theorem rep_any (c : Nat) (hc : c ≤ 4) (w : World) : Calls Tryz.prog 56 #[.string ⟨#[48]⟩, .int .i64 c] w (RetS w (Lib.repeatL [48] c)) := by
  refine (Tryz.strings_Repeat ⟨#[48]⟩ c w (by omega) (by have : (⟨#[48]⟩ : ByteArray).size = 1 := rfl; rw [this]; omega)).mono ?_
  rintro e w' ⟨rfl, hb⟩
  exact ⟨_, rfl, rfl, Lib.hid (by simp [ByteArray.size]), hb⟩

theorem ws_turn {z : Nat} {Wl W W2 W3 : World} (hWl : Wl.heap.size = z + 3) (hb2 : ∃ u, Boxed Wl (z + 2) 213 u) (ht : Turn [z + 1] Wl W) (h2 : Below W.heap.size W W2) (h3 : Below (z + 1) W2 W3)
    (ho : Lib.OthersKept 5 (some (z + 1)) W2 W3) : Turn [z + 1] Wl W3 ∧ KeepsFrom Wl.heap.size W W3 := by
  have hT2 : Turn [z + 1] Wl W2 := ht.trans (Turn.of_below h2)
  refine ⟨⟨h3.os.trans hT2.os, h3.tape.trans hT2.tape, h3.output.trans hT2.output, Nat.le_trans hT2.size h3.size, ?_⟩, ⟨Nat.le_trans h2.size h3.size, ?_⟩⟩
  · intro k hk hX
    have hX' : k ≠ z + 1 := by simpa using hX
    rcases Nat.lt_or_ge k (z + 1) with h | h
    · exact (h3.block k h).trans (hT2.block k hk hX)
    · obtain rfl : k = z + 2 := by omega
      obtain ⟨u, hu⟩ := hb2
      have hu2 : W2.heap[z + 2]? = some (.cells #[u] 213 (0, 0)) := (hT2.block _ hk hX).trans hu
      rw [show Wl.heap[z + 2]? = _ from hu]
      exact ho _ _ hu2 (by simp) (fun c fz e => by cases e)
  · intro k o hk hko hc
    have h5 : W2.heap[k]? = some o := (h2.block k (Array.getElem?_eq_some_iff.1 hko).1).trans hko
    exact ho k o h5 (fun e => by cases e; omega) (fun c fz e => by subst e; cases hc)

def sgn (neg : Bool) (n : Nat) : Int := if neg then -(n : Int) else n
theorem sgn_abs (neg : Bool) (n : Nat) : (sgn neg n).natAbs = n := by unfold sgn; cases neg <;> simp
theorem out_big {neg : Bool} {n : Nat} (h : 200 < (Lib.decDigits n).length) : outI (sgn neg n) = (⟨#[]⟩, 30) := by
  refine outI_no ?_
  rw [sgn_abs]
  intro h2
  have := (dec_len_iff (k := 200) (u := n) (by omega)).2 h2
  omega
theorem out_pos {n : Nat} (h : (Lib.decDigits n).length ≤ 200) : outI (sgn false n) = (⟨(Lib.decDigits n).toArray⟩, 0) := by
  rw [outI_ok (by rw [sgn_abs]; exact (dec_len_iff (by omega)).1 h)]
  unfold tx sgn
  rw [if_neg (by simp), itoa_pos]
theorem out_neg {n : Nat} (h0 : 0 < n) (h : (Lib.decDigits n).length ≤ 200) : outI (sgn true n) = (⟨(45 :: Lib.decDigits n).toArray⟩, 0) := by
  rw [outI_ok (by rw [sgn_abs]; exact (dec_len_iff (by omega)).1 h)]
  unfold tx sgn
  rw [if_pos rfl, itoa_neg (by omega)]
  simp

theorem out_zero (neg : Bool) : outI (sgn neg 0) = (⟨#[48]⟩, 0) := by
  have e : sgn neg 0 = ((0 : Nat) : Int) := by unfold sgn; cases neg <;> rfl
  rw [e, outI_ok (by decide)]
  unfold tx
  rw [itoa_pos, dec_small (by omega)]
  rfl
def RetOut (w : World) (z : Int) (e : Ending) (w' : World) : Prop := e = .returned (.tuple #[.string (outI z).1, .int .i64 (outI z).2]) ∧ Below w.heap.size w w'

set_option maxHeartbeats 1000000 in
set_option maxRecDepth 100000 in
theorem text_any (neg : Bool) (n : Nat) (v : Value) (w : World) (hv : Rd w v (dg 10000 n)) (hL : Laid w) :
    Calls Tryz.prog 165 #[.agg #[.bool neg, v]] w (RetOut w (sgn neg n)) := by
  have HV := Lib.hid hv
  have HL := Lib.hid hL
  clear hL
  rcases Nat.eq_zero_or_pos n with rfl | h0
  · obtain ⟨A, c, rfl, -, -, -⟩ := hv
    rw [dg_zero]
    simp only [List.length_nil]
    go_enter Tryz.func165, Tryz.ntmps165
    go_wp2
    go_ret2
    exact ⟨by rw [out_zero]; rfl, below1 _ _⟩
  · have BK := fun W (h : Rd W v (dg 10000 n)) => backward_any v (dg 10000 n) W h
    obtain ⟨A, c, rfl, -, hm, -⟩ := hv
    have hlp : 0 < ((dg 10000 n).length : Int) := by
      have : dg 10000 n ≠ [] := fun e => by rw [dg_eq_nil (by omega)] at e; omega
      have := List.length_pos_iff.2 this
      omega
    refine (callsIn_wide (n := 6)).1 ?_
    refine callsIn_of_wp_marks Tryz.func165 rfl trivial ?_ rfl
    simp only [Tryz.ntmps165, List.size_toArray, List.length_cons, List.length_nil, Nat.reduceAdd, Nat.reduceSub, Array.replicate_succ, Array.replicate_zero, List.push_toArray, List.append_toArray, List.nil_append, List.cons_append]
    gi_wp2_with (refine ⟨trivial, ?_⟩; gi_at_call 240; refine (callsIn_wide.2 (BK _ (HV.out.below (below2 _ _ _)))).mono ?_; rintro e w' ⟨rfl, rfl⟩)
    obtain ⟨W0, hW0⟩ : ∃ W0, (((w.alloc (.cells #[.bool neg, .slice A (dg 10000 n).length c] 215)).alloc (.cells #[.pointer none, .slice none 0 0] 208)).alloc (.cells #[.slice A (dg 10000 n).length c] 213)) = W0 := ⟨_, rfl⟩
    have hsz : W0.heap.size = w.heap.size + 3 := by rw [← hW0]; simp
    have hB0 : Below w.heap.size w W0 := by rw [← hW0]; exact below3 _ _ _ _
    have hx0 : W0.heap[w.heap.size]? = some (.cells #[.bool neg, .slice A (dg 10000 n).length c] 215 (0, 0)) := by
      have h1 := World.alloc_heap_new w (.cells #[.bool neg, .slice A (dg 10000 n).length c] 215)
      rw [← hW0]; exact ((below2 _ _ _).block _ (by simp)).trans h1
    have hbd0 : Lib.IsBuilderF 208 5 (w.heap.size + 1) (w.heap.size + 1) (Lib.byteCells (tb n [])) W0 := by
      rw [← hW0, show Lib.byteCells (tb n []) = [] from rfl]
      have := isBuilder_below (isBuilder_new (w.alloc (.cells #[.bool neg, .slice A (dg 10000 n).length c] 215))) (below1 _ (.cells #[.slice A (dg 10000 n).length c] 213))
      simpa using this
    have bl : Boxed W0 (w.heap.size + 2) 213 (.slice A (dg 10000 n).length c) := by
      rw [← hW0]; have := Boxed.new ((w.alloc (.cells #[.bool neg, .slice A (dg 10000 n).length c] 215)).alloc (.cells #[.pointer none, .slice none 0 0] 208)) 213 (.slice A (dg 10000 n).length c)
      simpa using this
    rw [hW0]
    clear hW0
    refine range_backT (by omega) (Bs := w.heap.size + 2) (v := .slice A (dg 10000 n).length c) (xs := dg 10000 n) rfl bl.cell (HV.out.below hB0) rfl w hB0 [w.heap.size + 1]
      (fun k hk => by
        rw [List.mem_singleton] at hk; subst hk
        exact ⟨by omega, by omega, by omega, fun e => by have := HV.out.row_lt e; omega⟩)
      (fun pre W => Lib.IsBuilderF 208 5 (w.heap.size + 1) (w.heap.size + 1) (Lib.byteCells (tb n pre)) W ∧ W.heap[w.heap.size]? = some (.cells #[.bool neg, .slice A (dg 10000 n).length c] 215 (0, 0)))
      (fun _ _ _ => False)
      (fun s X Y hs _ hk => ⟨isBuilder_co hk hs.1, hk _ _ hs.2 rfl⟩)
      (fun _ _ _ _ hs _ _ => hs)
      ⟨hbd0, hx0⟩
      (fun x => { tmps := #[.agg #[.bool neg, .slice A (dg 10000 n).length c], .pointer (some ⟨w.heap.size, 0, none⟩), .string ⟨#[]⟩, .int .i64 0, .pointer (some ⟨w.heap.size + 1, 0, none⟩), .int .i64 (x.1 : Nat), .int .i64 (nth (dg 10000 n) x.1), undef, undef, .pointer (some ⟨w.heap.size, 1, none⟩), .slice A (dg 10000 n).length c, .int .i64 ((dg 10000 n).length : Nat), .bool false, .pointer (some ⟨w.heap.size, 1, none⟩), .slice A (dg 10000 n).length c, .func (.func 300) #[] #[.pointer (some ⟨w.heap.size + 2, 0, none⟩)], .int .i64 (x.1 : Nat), .int .i64 (nth (dg 10000 n) x.1), undef, undef, undef, undef, undef, undef, undef, undef, undef, undef, undef, undef, undef, undef, undef, undef, undef, undef, undef, undef, undef, undef, undef, undef, undef], defers := [] }) ?assign ?body ?done ?stop
    case assign =>
      intro l x W K hK
      gi_wp2
      exact hK
    case body =>
      rintro l pre x W ⟨hbd, hx⟩ hbW htW hlen
      have hd := dgn_le n x.1
      have htl := tb_len n pre
      have hxl := x.2
      have hdl := dec_len (k := 4) (u := dgn n x.1) (by omega) (by omega)
      have HSN := Lib.hid (tb_snoc n pre x)
      have HGT : Hid (gt n x = if x.1 < (dg 10000 n).length - 1 then pad 4 (dgn n x.1) else Lib.decDigits (dgn n x.1)) := Lib.hid rfl
      rw [dgn_eq]
      generalize dgn n x.1 = d at *
      generalize gt n x = g at *
      have HPD := Lib.hid (pad_text hd)
      have HL1 := Lib.hid (HL.out.below hbW)
      have HBD := Lib.hid hbd
      have HW1 := Lib.hid (fun (W2 W3 : World) => ws_turn (W2 := W2) (W3 := W3) hsz ⟨_, bl⟩ htW)
      have hxc : W.cell? ⟨w.heap.size, 1, none⟩ = some (.slice A (dg 10000 n).length c) := by simp [World.cell?, hx]
      have HX := Lib.hid hx
      have HBL := Lib.hid bl
      have hlen1 : pre.length ≤ 1000000 := by omega
      have hzW := htW.size
      clear hx hbd hbd0 hx0 bl BK htW
      have hzs := hbW.size
      have fin : ∀ (W2 : World) (t : ByteArray), Below W.heap.size W W2 → t.data.toList = g → ∀ W3, Lib.BuilderAtF 208 5 (w.heap.size + 1) (w.heap.size + 1) (.pointer (some ⟨w.heap.size + 1, 0, none⟩)) (Lib.byteCells (tb n pre) ++ Lib.strCells t) W3 → Below (w.heap.size + 1) W2 W3 → Lib.OthersKept 5 (some (w.heap.size + 1)) W2 W3 →
          Turn [w.heap.size + 1] W0 W3 ∧ KeepsFrom W0.heap.size W W3 ∧ Lib.IsBuilderF 208 5 (w.heap.size + 1) (w.heap.size + 1) (Lib.byteCells (tb n (pre ++ [x]))) W3 ∧ W3.heap[w.heap.size]? = some (.cells #[.bool neg, .slice A (dg 10000 n).length c] 215 (0, 0)) := by
        intro W2 t h2 ht W3 h3 h4 h5
        have h6 := HW1.out W2 W3 h2 h4 h5
        refine ⟨h6.1, h6.2, .inr ?_, ?_⟩
        · rw [HSN.out, Lib.byteCells_append, ← ht, ← Lib.strCells_eq]; exact h3
        · exact (h4.block _ (by omega)).trans ((h2.block _ (Array.getElem?_eq_some_iff.1 HX.out).1).trans HX.out)
      have FIN := Lib.hid fin
      clear fin HW1
      by_cases hcx : x.1 < (dg 10000 n).length - 1
      · have hci : ((x.1 : Nat) : Int) < ((dg 10000 n).length : Int) - 1 := by omega
        have hwl : IntKind.i64.wrap (((dg 10000 n).length : Int) - 1) = ((dg 10000 n).length : Int) - 1 := IntWalk.i64_in _ (by omega)
        have HG2 := Lib.hid ((HGT.out.trans (if_pos hcx)).trans HPD.out.symm)
        clear HGT HPD hcx
        gi_wp2_with (first
          | (refine ⟨trivial, ?_⟩; gi_at_call 249; (with_reducible refine (CallsIn.inRound l (callsIn_wide.2 (itoa_any d (by omega) _ HL1.out))).mono ?_); rintro e W1 ⟨s1, rfl, hs1, hz1, hb1⟩; have hxc1 := (hb1.cell (cell_lt hxc)).trans hxc; have hz4 : s1.size ≤ 4 := Nat.le_trans (Nat.le_of_eq hz1.out) hdl; have hw4 : IntKind.i64.wrap (4 - (s1.size : Int)) = ((4 - s1.size : Nat) : Int) := (IntWalk.i64_in _ (by omega)).trans (by omega))
          | (refine ⟨trivial, ?_⟩; gi_at_call 56; (with_reducible refine (CallsIn.inRound l (callsIn_wide.2 (rep_any _ (by omega) _))).mono ?_); rintro e W2 ⟨s2, rfl, hs2, hz2, hb2⟩; have hz5 : s2.size ≤ 4 := (by have e1 := hz2.out; rw [rep_eq, List.length_replicate] at e1; omega); have hz6 : ¬ 9223372036854775807 < s2.size + s1.size := (by omega); have hb12 := Nat.le_trans hb1.size hb2.size)
          | (refine ⟨trivial, ?_⟩; gi_at_call 156; (with_reducible refine (CallsIn.inRound l (callsIn_wide.2 (ws_k (w.heap.size + 1) (w.heap.size + 1) _ (s2 ++ s1) W2 (isBuilder_below (isBuilder_below HBD.out hb1) hb2) (by rw [Lib.byteCells_length, ByteArray.size_append]; omega) (by omega)))).mono ?_); rintro e W3 ⟨rfl, h3, h4, h5⟩))
        exact FIN.out W2 (s2 ++ s1) (below_up hb1 hb2) (by rw [HG2.out, ← hz1.out, ByteArray.data_append, Array.toList_append, hs2.out, hs1.out]) W3 h3 h4 h5
      · have hci : ¬ ((x.1 : Nat) : Int) < ((dg 10000 n).length : Int) - 1 := by omega
        have hwl : IntKind.i64.wrap (((dg 10000 n).length : Int) - 1) = ((dg 10000 n).length : Int) - 1 := IntWalk.i64_in _ (by omega)
        have HG2 := Lib.hid (HGT.out.trans (if_neg hcx))
        clear HGT HPD hcx
        gi_wp2_with (first
          | (refine ⟨trivial, ?_⟩; gi_at_call 249; (with_reducible refine (CallsIn.inRound l (callsIn_wide.2 (itoa_any d (by omega) _ HL1.out))).mono ?_); rintro e W1 ⟨s1, rfl, hs1, hz1, hb1⟩; have hxc1 := (hb1.cell (cell_lt hxc)).trans hxc; have hz4 : s1.size ≤ 4 := Nat.le_trans (Nat.le_of_eq hz1.out) hdl; have hb12 := hb1.size)
          | (refine ⟨trivial, ?_⟩; gi_at_call 156; (with_reducible refine (CallsIn.inRound l (callsIn_wide.2 (ws_k (w.heap.size + 1) (w.heap.size + 1) _ s1 W1 (isBuilder_below HBD.out hb1) (by rw [Lib.byteCells_length]; omega) (by omega)))).mono ?_); rintro e W3 ⟨rfl, h3, h4, h5⟩))
        exact FIN.out W1 s1 hb1 (by rw [HG2.out, hs1.out]) W3 h3 h4 h5
    case done =>
      rintro D W hD ⟨hbd, hx⟩ hbW htW hK
      rw [tb_all h0] at hbd
      have hxc : W.cell? ⟨w.heap.size, 0, none⟩ = some (.bool neg) := by simp [World.cell?, hx]
      have HBD := Lib.hid hbd
      have HK := Lib.hid hK
      have hzs := hbW.size
      have hzW := htW.size
      have HO := Lib.hid (out_big (neg := neg) (n := n))
      have HP := Lib.hid (out_pos (n := n))
      have HN := Lib.hid (out_neg (n := n) h0)
      clear hx hbd hbd0 hx0 bl BK htW hm hK
      have ST := Lib.hid (Tryz.Builder_String_any_k (w.heap.size + 1) (w.heap.size + 1) (Lib.decDigits n) W HBD.out (by omega))
      have fin : ∀ W', Below (w.heap.size + 1) W W' → Lib.OthersKept 5 (some (w.heap.size + 1)) W W' → W'.heap[D]? = some (.deferred (some [])) ∧ Below w.heap.size w (W'.putObj D (.deferred none)) := by
        intro W' h1 h2
        refine ⟨h2 _ _ HK.out (by simp; omega) (fun c fz e => by cases e), below_mark (hbW.trans (h1.mono (by omega))) (Nat.le_refl _) (by omega)⟩
      have FIN := Lib.hid fin
      clear fin
      obtain ⟨s, hs⟩ : ∃ s : ByteArray, s = ⟨(Lib.decDigits n).toArray⟩ := ⟨_, rfl⟩
      have hsz' : s.size = (Lib.decDigits n).length := by rw [hs]; simp [ByteArray.size]
      rw [← hs] at ST
      have HS := Lib.hid hs
      clear hs
      by_cases h200 : 200 < (Lib.decDigits n).length
      · have hc : (200 : Int) < (s.size : Int) := by omega
        have HR := Lib.hid (HO.out h200)
        clear hsz' h200 HO HP HN
        gi_wp2_with (refine ⟨trivial, ?_⟩; gi_at_call 158; (with_reducible refine (callsIn_wide.2 ST.out).mono ?_); rintro e W1 ⟨rfl, -, hb1, ho1⟩; obtain ⟨hk1, hbk⟩ := FIN.out W1 hb1 ho1; have HK1 := Lib.hid hk1; have HBK := Lib.hid hbk; clear hk1 hbk)
        refine ⟨by simp, .inl ⟨_, _, rfl, run_takeDeferred HK1.out, ?_⟩⟩
        exact ⟨.tuple #[_, _], results_tmp2 rfl _ _ _, by rw [HR.out]; rfl, HBK.out⟩
      · have hc : ¬ (200 : Int) < (s.size : Int) := by omega
        cases neg with
        | false =>
          have HR := Lib.hid (HP.out (by omega))
          rw [← HS.out] at HR
          clear hsz' h200 HO HP HN
          gi_wp2_with (refine ⟨trivial, ?_⟩; gi_at_call 158; (with_reducible refine (callsIn_wide.2 ST.out).mono ?_); rintro e W1 ⟨rfl, -, hb1, ho1⟩; obtain ⟨hk1, hbk⟩ := FIN.out W1 hb1 ho1; have HK1 := Lib.hid hk1; have HBK := Lib.hid hbk; have hxc1 := (hb1.cell (p := ⟨w.heap.size, 0, none⟩) (by simp)).trans hxc; clear hk1 hbk)
          refine ⟨by simp, .inl ⟨_, _, rfl, run_takeDeferred HK1.out, ?_⟩⟩
          exact ⟨.tuple #[_, _], results_tmp2 rfl _ _ _, by rw [HR.out]; rfl, HBK.out⟩
        | true =>
          have HR := Lib.hid (HN.out (by omega))
          have hcat : ¬ 9223372036854775807 < 1 + s.size := by omega
          have hcat' : ¬ 9223372036854775807 < (⟨#[45]⟩ : ByteArray).size + s.size := hcat
          have HE : Hid ((⟨(45 :: Lib.decDigits n).toArray⟩ : ByteArray) = ⟨#[45]⟩ ++ s) := by
            rw [HS.out]; exact ByteArray.ext (by rw [ByteArray.data_append]; simp)
          rw [HE.out] at HR
          clear hsz' h200 HO HP HN HE
          gi_wp2_with (refine ⟨trivial, ?_⟩; gi_at_call 158; (with_reducible refine (callsIn_wide.2 ST.out).mono ?_); rintro e W1 ⟨rfl, -, hb1, ho1⟩; obtain ⟨hk1, hbk⟩ := FIN.out W1 hb1 ho1; have HK1 := Lib.hid hk1; have HBK := Lib.hid hbk; have hxc1 := (hb1.cell (p := ⟨w.heap.size, 0, none⟩) (by simp)).trans hxc; clear hk1 hbk)
          refine ⟨by simp, .inl ⟨_, _, rfl, run_takeDeferred HK1.out, ?_⟩⟩
          exact ⟨.tuple #[_, _], results_tmp2 rfl _ _ _, by rw [HR.out]; rfl, HBK.out⟩
    case stop =>
      rintro D cd pre W hD hSp h hbW hK
      exact h.elim

end Go.Proofs.YtffndcjmabjhiaaGreatDoor

namespace Go.Proofs.YtffndcjmabjhiaaGreatDoor.Num
open Go.Lib

theorem body_trim (l : List UInt8) : trimPrefix l [45] = body l := by
  unfold trimPrefix hasPrefix body
  cases l with
  | nil => rfl
  | cons c r =>
    by_cases h : c = 45
    · subst h; simp [List.isPrefixOf]
    · have h1 : ((45 : UInt8) == c) = false := by simpa using fun e => h e.symm
      simp [List.isPrefixOf, h, h1]

theorem digits_isD (c : UInt8) : [48, 49, 50, 51, 52, 53, 54, 55, 56, 57].contains c = isD c := by
  unfold isD
  have h : ∀ k : UInt8, (c = k) ↔ c.toNat = k.toNat := fun k => ⟨fun e => by rw [e], fun e => UInt8.toNat_inj.1 e⟩
  rw [Bool.eq_iff_iff]
  simp only [List.contains_cons, List.contains_nil, Bool.or_eq_true, beq_iff_eq, Bool.or_false, decide_eq_true_eq, h]
  simp
  omega
theorem dropWhile_nil {p : UInt8 → Bool} : ∀ {l : List UInt8}, l.dropWhile p = [] ↔ l.all p = true
  | [] => by simp
  | c :: r => by
    rw [List.dropWhile_cons, List.all_cons]
    cases h : p c with
    | true => simp [dropWhile_nil]
    | false => simp
theorem head_dropWhile {p : UInt8 → Bool} : ∀ {l : List UInt8} {c : UInt8} {r : List UInt8}, l.dropWhile p = c :: r → p c = false
  | [], c, r, h => by cases h
  | x :: l, c, r, h => by
    rw [List.dropWhile_cons] at h
    cases hp : p x with
    | true => rw [hp] at h; exact head_dropWhile h
    | false => rw [hp] at h; simp only [Bool.false_eq_true, if_false, List.cons.injEq] at h; rw [← h.1]; exact hp
theorem trim_digits (l : List UInt8) : trimS l [48, 49, 50, 51, 52, 53, 54, 55, 56, 57] = [] ↔ l.all isD = true := by
  have hp : (fun c => [48, 49, 50, 51, 52, 53, 54, 55, 56, 57].contains c) = isD := funext digits_isD
  unfold trimS trimLeftS trimRightS
  rw [hp, dropWhile_nil]
  cases h : l.reverse.dropWhile isD with
  | nil =>
    rw [dropWhile_nil, List.all_reverse] at h
    simp [h]
  | cons c r =>
    have hc := head_dropWhile h
    have hn : l.all isD = false := by
      rw [← List.all_reverse]
      cases he : l.reverse.all isD with
      | false => rfl
      | true => rw [dropWhile_nil.2 he] at h; cases h
    rw [hn]
    simp [hc]

theorem parse10 : ∀ (l : List UInt8) (acc : Nat), l.all isD = true → acc * 10 ^ l.length + dval l < 18446744073709551616 → parseUint10 acc l = .ok (acc * 10 ^ l.length + dval l)
  | [], acc, _, _ => by simp [parseUint10, dval]
  | c :: r, acc, h, hb => by
    rw [List.all_cons, Bool.and_eq_true] at h
    have hc : 48 ≤ c.toNat ∧ c.toNat ≤ 57 := by simpa [isD] using h.1
    have hd := dval_cons c r
    have e : (acc * 10 + (c.toNat - 48)) * 10 ^ r.length + dval r = acc * 10 ^ (c :: r).length + dval (c :: r) := by
      rw [hd, List.length_cons, Nat.pow_succ, Nat.add_mul, Nat.mul_assoc, Nat.mul_comm 10, Nat.add_assoc]
    have hge : acc * 10 + (c.toNat - 48) < 18446744073709551616 := by
      have h1 : (acc * 10 + (c.toNat - 48)) * 1 ≤ (acc * 10 + (c.toNat - 48)) * 10 ^ r.length := Nat.mul_le_mul_left _ (Nat.pow_pos (by omega))
      omega
    rw [parseUint10, if_pos hc, if_neg (by omega), if_neg (by omega), parse10 r _ h.2 (by rw [e]; exact hb), e]

theorem parse10_range : ∀ (l : List UInt8) (acc : Nat), l.all isD = true → acc < 18446744073709551616 → 18446744073709551616 ≤ acc * 10 ^ l.length + dval l → parseUint10 acc l = .range
  | [], acc, _, h1, h2 => by simp [dval] at h2; omega
  | c :: r, acc, h, h1, h2 => by
    rw [List.all_cons, Bool.and_eq_true] at h
    have hc : 48 ≤ c.toNat ∧ c.toNat ≤ 57 := by simpa [isD] using h.1
    have hd := dval_cons c r
    have e : (acc * 10 + (c.toNat - 48)) * 10 ^ r.length + dval r = acc * 10 ^ (c :: r).length + dval (c :: r) := by
      rw [hd, List.length_cons, Nat.pow_succ, Nat.add_mul, Nat.mul_assoc, Nat.mul_comm 10, Nat.add_assoc]
    rw [parseUint10, if_pos hc]
    split
    · rfl
    · split
      · rfl
      · exact parse10_range r _ h.2 (by omega) (by rw [e]; exact h2)
theorem mag_dec (u : Nat) : parseMag (decDigits u) = if u < 18446744073709551616 then .ok u else .range := by
  have hv := dval_dec u
  have ha := dec_isD u
  unfold parseMag
  rw [if_neg (dec_ne u)]
  split
  · rw [parse10 _ 0 ha (by rw [hv]; omega), hv]; simp
  · exact parse10_range _ 0 ha (by omega) (by rw [hv]; omega)
theorem atoi_itoa (z : Int) : atoiAll (itoa z) = if -9223372036854775808 ≤ z ∧ z ≤ 9223372036854775807 then .ok z else .range := by
  rcases Int.lt_or_le z 0 with h0 | h0
  · rw [itoa_neg h0]
    unfold atoiAll
    simp only
    rw [if_pos (by decide), mag_dec]
    by_cases hu : z.natAbs < 18446744073709551616
    · rw [if_pos hu]
      simp only
      rw [if_neg (by intro h; exact h.1 (by decide))]
      by_cases h2 : 9223372036854775808 < z.natAbs
      · rw [if_pos ⟨by decide, h2⟩, if_neg (by omega)]
      · rw [if_neg (fun h => h2 h.2), if_pos (by decide), if_pos (by omega)]
        congr 1
        omega
    · rw [if_neg hu, if_neg (by omega)]
  · rw [itoa_nonneg h0]
    have ha := dec_isD z.natAbs
    have hm := mag_dec z.natAbs
    have hne := dec_ne z.natAbs
    generalize hl : decDigits z.natAbs = l at *
    cases l with
    | nil => exact absurd rfl hne
    | cons c r =>
      have hc : 48 ≤ c.toNat ∧ c.toNat ≤ 57 := by
        rw [List.all_cons, Bool.and_eq_true] at ha
        simpa [isD] using ha.1
      unfold atoiAll
      simp only
      rw [if_neg (by omega), hm]
      by_cases hu : z.natAbs < 18446744073709551616
      · rw [if_pos hu]
        simp only
        by_cases h2 : 9223372036854775808 ≤ z.natAbs
        · rw [if_pos ⟨by omega, h2⟩, if_neg (by omega)]
        · rw [if_neg (fun h => h2 h.2), if_neg (by omega), if_neg (by omega), if_pos (by omega)]
          congr 1
          omega
      · rw [if_neg hu, if_neg (by omega)]

theorem atoi_digits {l : List UInt8} (hn : l ≠ []) (h : l.all isD = true) (hl : l.length ≤ 18) : atoiAll l = .ok (dval l : Int) := by
  have hv := dval_lt l h
  have h18 : 10 ^ l.length ≤ 10 ^ 18 := Nat.pow_le_pow_right (by omega) hl
  have hb : dval l < 1000000000000000000 := Nat.lt_of_lt_of_le hv h18
  cases l with
  | nil => exact absurd rfl hn
  | cons c r =>
    have hc : 48 ≤ c.toNat ∧ c.toNat ≤ 57 := by
      rw [List.all_cons, Bool.and_eq_true] at h
      simpa [isD] using h.1
    unfold atoiAll
    simp only
    rw [if_neg (by omega)]
    unfold parseMag
    rw [if_neg (by simp), parse10 _ 0 h (by omega)]
    simp only [Nat.zero_mul, Nat.zero_add]
    rw [if_neg (by omega), if_neg (by omega), if_neg (by omega)]

/-! ### Pieces of four digits, from the end -/
structure PI (l : List UInt8) (m : Nat) (g : List Int) : Prop where
  dig : Dig 10000 g
  len : g.length + m ≤ l.length
  val : (dval l : Int) = (dval (l.take m) : Int) * (10000 : Int) ^ g.length + nv 10000 g
theorem PI.start (l : List UInt8) : PI l l.length [] := ⟨Dig.nil _, by simp, by simp [nv]⟩
theorem piece_val (l : List UInt8) (m : Nat) : dval (l.take m) = dval (l.take (m - 4)) * 10 ^ ((l.take m).drop (m - 4)).length + dval ((l.take m).drop (m - 4)) := by
  have h := List.take_append_drop (m - 4) (l.take m)
  rw [List.take_take, Nat.min_eq_left (by omega)] at h
  rw [← dval_append, h]
theorem piece_len {l : List UInt8} {m : Nat} (hm : m ≤ l.length) : ((l.take m).drop (m - 4)).length = m - (m - 4) := by
  rw [List.length_drop, List.length_take, Nat.min_eq_left hm]
theorem piece_all {l : List UInt8} (h : l.all isD = true) (m : Nat) : ((l.take m).drop (m - 4)).all isD = true := by
  rw [List.all_eq_true] at h ⊢
  exact fun x hx => h x (List.mem_of_mem_take (List.mem_of_mem_drop hx))
theorem PI.step {l : List UInt8} {m : Nat} {g : List Int} (h : PI l m g) (ha : l.all isD = true) (hm : 0 < m) : PI l (m - 4) (g ++ [(dval ((l.take m).drop (m - 4)) : Int)]) := by
  have hml : m ≤ l.length := by have := h.len; omega
  have hpl := piece_len hml
  have hlt := dval_lt _ (piece_all ha m)
  have h4 : 10 ^ ((l.take m).drop (m - 4)).length ≤ 10 ^ 4 := Nat.pow_le_pow_right (by omega) (by omega)
  refine ⟨h.dig.append (Dig.one (by omega) (by omega)), by rw [List.length_append, List.length_singleton]; have := h.len; omega, ?_⟩
  rw [nv_snoc, h.val, List.length_append, List.length_singleton, Int.pow_succ]
  have hv : (dval (l.take m) : Int) = (dval (l.take (m - 4)) : Int) * 10000 + (dval ((l.take m).drop (m - 4)) : Int) := by
    have := piece_val l m
    rcases Nat.lt_or_ge m 4 with h1 | h1
    · have e : m - 4 = 0 := by omega
      rw [e] at this ⊢
      simp only [List.take_zero, dval_nil, Nat.zero_mul, Nat.zero_add] at this ⊢
      omega
    · rw [hpl, show m - (m - 4) = 4 by omega] at this
      omega
  rw [hv]
  generalize (dval (l.take (m - 4)) : Int) = A
  generalize (dval ((l.take m).drop (m - 4)) : Int) = B
  generalize nv 10000 g = C
  show (A * 10000 + B) * 10000 ^ g.length + C = A * (10000 ^ g.length * 10000) + (C + 10000 ^ g.length * B)
  generalize (10000 : Int) ^ g.length = P
  rw [Int.add_mul, Int.mul_assoc, Int.mul_comm 10000 P, Int.mul_comm B P]
  omega
theorem PI.done {l : List UInt8} {g : List Int} (h : PI l 0 g) : nv 10000 g = dval l := by
  have := h.val
  simp only [List.take_zero, dval_nil] at this
  omega

end Go.Proofs.YtffndcjmabjhiaaGreatDoor.Num

namespace Go.Proofs.YtffndcjmabjhiaaGreatDoor
open Go.RowKit Num
open Go.Shelf

theorem ba_iff (a b : ByteArray) : (a == b) = true ↔ a = b := by
  obtain ⟨x⟩ := a
  obtain ⟨y⟩ := b
  show ((x == y) = true) ↔ _
  rw [beq_iff_eq]
  exact ⟨fun h => by rw [h], fun h => by injection h⟩
theorem trimp_any (s : ByteArray) (w : World) : Calls Tryz.prog 294 #[.string s, .string ⟨#[45]⟩] w fun e w' => (∃ d : ByteArray, e = .returned (.string d) ∧ Hid (d = ⟨(body s.data.toList).toArray⟩)) ∧ w' = w := by
  refine (Tryz.strings_TrimPrefix s ⟨#[45]⟩ w).mono ?_
  rintro e w' ⟨rfl, rfl⟩
  exact ⟨⟨_, rfl, by rw [body_trim]; exact rfl⟩, rfl⟩
theorem trim_any (s : ByteArray) (hs : s.size ≤ 200) (w : World) : Calls Tryz.prog 295 #[.string s, .string ⟨#[48, 49, 50, 51, 52, 53, 54, 55, 56, 57]⟩] w fun e w' => (∃ d : ByteArray, e = .returned (.string d) ∧ d.toList.isEmpty = s.data.toList.all isD) ∧ Below w.heap.size w w' := by
  refine (Tryz.strings_Trim s ⟨#[48, 49, 50, 51, 52, 53, 54, 55, 56, 57]⟩ w (by omega) (by decide) (by
    intro j b hj
    have hm : b ∈ [(48 : UInt8), 49, 50, 51, 52, 53, 54, 55, 56, 57] := List.mem_of_getElem? hj
    simp only [List.mem_cons, List.not_mem_nil, or_false] at hm
    rcases hm with rfl | rfl | rfl | rfl | rfl | rfl | rfl | rfl | rfl | rfl <;> decide)).mono ?_
  rintro e w' ⟨rfl, hb⟩
  refine ⟨⟨_, rfl, ?_⟩, hb⟩
  have h := trim_digits s.data.toList
  rw [Bool.eq_iff_iff, List.isEmpty_iff, ← h, ByteArray.toList_mk]

theorem head_ne (d : ByteArray) (h : 0 < d.size) : ((((d[0]'h).toNat : Nat) : Int) != 48) = (d.data.toList.head? != some 48) := by
  obtain ⟨⟨l⟩⟩ := d
  cases l with
  | nil => simp [ByteArray.size] at h
  | cons c r =>
    show (((c.toNat : Nat) : Int) != 48) = (some c != some 48)
    rw [Bool.eq_iff_iff, bne_iff_ne, bne_iff_ne]
    constructor
    · intro h1 e
      cases e
      exact h1 rfl
    · intro h1 e
      have : c.toNat = (48 : UInt8).toNat := by simpa using (show c.toNat = 48 by omega)
      exact h1 (by rw [UInt8.toNat_inj.1 this])

set_option maxHeartbeats 1000000 in
theorem valid_any (s : ByteArray) (w : World) : Calls Tryz.prog 232 #[.string s] w fun e w' => e = .returned (.bool (validL s.data.toList)) ∧ Below w.heap.size w w' := by
  go_enter Tryz.func232, Tryz.ntmps232
  obtain ⟨ds, hds⟩ : ∃ d : ByteArray, d = ⟨(body s.data.toList).toArray⟩ := ⟨_, rfl⟩
  have hv : validL s.data.toList = ((!(body s.data.toList).isEmpty) && decide ((body s.data.toList).length ≤ 200) && (body s.data.toList).all isD && (s.data.toList == [48] || (body s.data.toList).head? != some 48)) := rfl
  have hbd : body s.data.toList = ds.data.toList := by rw [hds]
  have hsz : ds.size = ds.data.toList.length := rfl
  have TP := Lib.hid (trimp_any s)
  rw [hv, hbd]
  have HDS := Lib.hid hds
  have HSZ := Lib.hid hsz
  clear hv hbd hds hsz
  by_cases h0 : ds.data.toList = []
  · rw [h0]
    have he : ds = ⟨#[]⟩ := ByteArray.ext (by rw [← Array.toList_inj]; exact h0)
    clear h0
    subst he
    go_wp2_with (go_at_call 294; (with_reducible refine (TP.out _).mono ?_); rintro e w1 ⟨⟨d, rfl, hd⟩, rfl⟩; obtain rfl : d = ⟨#[]⟩ := hd.out.trans HDS.out.symm; clear hd)
    go_ret
    exact ⟨rfl, Below.refl _ _⟩
  · have hne : ds.toList.isEmpty = false := by rw [ByteArray.toList_eq]; simpa using h0
    have he0 : ds.data.toList.isEmpty = false := by simpa using h0
    rw [he0]
    have hpos : 0 < ds.size := by rw [HSZ.out]; exact List.length_pos_iff.2 h0
    by_cases h200 : 200 < ds.size
    · have hc : (200 : Int) < (ds.size : Int) := by omega
      have e : ((!false) && decide (ds.data.toList.length ≤ 200) && ds.data.toList.all isD && (s.data.toList == [48] || ds.data.toList.head? != some 48)) = false := by
        have h : decide (ds.data.toList.length ≤ 200) = false := by rw [← HSZ.out]; simpa using h200
        rw [h]; rfl
      rw [e]
      clear e h0 h200 he0
      go_wp2_with (go_at_call 294; (with_reducible refine (TP.out _).mono ?_); rintro e w1 ⟨⟨d, rfl, hd⟩, rfl⟩; obtain rfl : d = ds := hd.out.trans HDS.out.symm; clear hd)
      go_ret
      exact ⟨rfl, Below.refl _ _⟩
    · have hc : ¬ (200 : Int) < (ds.size : Int) := by omega
      have h : decide (ds.data.toList.length ≤ 200) = true := by rw [← HSZ.out]; simpa using h200
      rw [h, Bool.not_false, Bool.true_and, Bool.true_and]
      have TR := Lib.hid (trim_any ds (by omega) w)
      generalize ds.data.toList.all isD = b at TR ⊢
      clear h h0 he0 h200
      cases b with
      | false =>
        rw [Bool.false_and]
        go_wp2_with (first | (go_at_call 294; (with_reducible refine (TP.out _).mono ?_); rintro e w1 ⟨⟨d, rfl, hd⟩, rfl⟩; obtain rfl : d = ds := hd.out.trans HDS.out.symm; clear hd) | (go_at_call 295; (with_reducible refine TR.out.mono ?_); rintro e w1 ⟨⟨t, rfl, ht⟩, hb1⟩))
        go_ret
        exact ⟨rfl, hb1⟩
      | true =>
        rw [Bool.true_and]
        have hs0 : (s.data.toList == [48]) = (s.toList == [48]) := by rw [ByteArray.toList_eq]
        rw [hs0]
        clear hs0
        cases h48 : (s.toList == [48]) with
        | true =>
          rw [Bool.true_or]
          go_wp2_with (first | (go_at_call 294; (with_reducible refine (TP.out _).mono ?_); rintro e w1 ⟨⟨d, rfl, hd⟩, rfl⟩; obtain rfl : d = ds := hd.out.trans HDS.out.symm; clear hd) | (go_at_call 295; (with_reducible refine TR.out.mono ?_); rintro e w1 ⟨⟨t, rfl, ht⟩, hb1⟩))
          go_ret
          exact ⟨rfl, hb1⟩
        | false =>
          rw [Bool.false_or]
          go_wp2_with (first | (go_at_call 294; (with_reducible refine (TP.out _).mono ?_); rintro e w1 ⟨⟨d, rfl, hd⟩, rfl⟩; obtain rfl : d = ds := hd.out.trans HDS.out.symm; clear hd) | (go_at_call 295; (with_reducible refine TR.out.mono ?_); rintro e w1 ⟨⟨t, rfl, ht⟩, hb1⟩))
          go_ret
          exact ⟨congrArg (fun b => Ending.returned (.bool b)) (head_ne d hpos), hb1⟩

end Go.Proofs.YtffndcjmabjhiaaGreatDoor

namespace Go.Proofs.YtffndcjmabjhiaaGreatDoor
open Go.RowKit Num
open Go.Shelf

theorem own_below {w w' : World} {B : Nat} {e : TypeId} {k n : Nat} {v : Value} {xs : List Value} (h : w.ownsRow B e k v n xs) (hb : Below w.heap.size w w') : w'.ownsRow B e k v n xs := by
  refine ⟨h.1, ?_⟩
  rcases h.2 with h4 | ⟨g, cap, cur, h5, h6, h7, h8⟩
  · exact .inl h4
  · exact .inr ⟨g, cap, cur, h5, h6, (hb.block g (Array.getElem?_eq_some_iff.1 h7).1).trans h7, h8⟩
theorem own_set {w : World} {B : Nat} {e : TypeId} {k n : Nat} {v : Value} {xs : List Value} (h : w.ownsRow B e k v n xs) (b o : Nat) (hb : b < B) (u : Value) : (w.setCell ⟨b, o, none⟩ u).ownsRow B e k v n xs := by
  refine ⟨h.1, ?_⟩
  rcases h.2 with h4 | ⟨g, cap, cur, h5, h6, h7, h8⟩
  · exact .inl h4
  · exact .inr ⟨g, cap, cur, h5, h6, ((Turn.setCell (X := [b]) w b o u (by simp)).block g (Array.getElem?_eq_some_iff.1 h7).1 (by simp; omega)).trans h7, h8⟩

/-- A struct of a sign and a number lies in block B. -/
def SBox (W : World) (B : Nat) (neg : Bool) (v : Value) : Prop := W.heap[B]? = some (.cells #[.bool neg, v] 215 (0, 0))
theorem SBox.lt {W : World} {B : Nat} {neg : Bool} {v : Value} (h : SBox W B neg v) : B < W.heap.size := (Array.getElem?_eq_some_iff.1 h).1
theorem SBox.cell0 {W : World} {B : Nat} {neg : Bool} {v : Value} (h : SBox W B neg v) : W.cell? ⟨B, 0, none⟩ = some (.bool neg) := by simp [World.cell?, show W.heap[B]? = _ from h]
theorem SBox.cell1 {W : World} {B : Nat} {neg : Bool} {v : Value} (h : SBox W B neg v) : W.cell? ⟨B, 1, none⟩ = some v := by simp [World.cell?, show W.heap[B]? = _ from h]
theorem SBox.frozen {W : World} {B : Nat} {neg : Bool} {v : Value} (h : SBox W B neg v) (o : Nat) : W.frozen? ⟨B, o, none⟩ = false := by simp [World.frozen?, show W.heap[B]? = _ from h]
theorem SBox.below {W W' : World} {B : Nat} {neg : Bool} {v : Value} (h : SBox W B neg v) {n : Nat} (hb : Below n W W') (hn : B < n) : SBox W' B neg v := (hb.block B hn).trans h
theorem SBox.other {W : World} {B : Nat} {neg : Bool} {v : Value} (h : SBox W B neg v) {b : Nat} (hne : B ≠ b) (o : Nat) (u : Value) : SBox (W.setCell ⟨b, o, none⟩ u) B neg v :=
  ((Turn.setCell (X := [b]) W b o u (by simp)).block B h.lt (by simp [hne])).trans h
theorem SBox.set {W : World} {B : Nat} {neg : Bool} {v : Value} (h : SBox W B neg v) (u : Value) : SBox (W.setCell ⟨B, 1, none⟩ u) B neg u := by
  have h' : W.heap[B]? = _ := h
  obtain ⟨hq, he⟩ := Array.getElem?_eq_some_iff.1 h'
  unfold SBox World.setCell
  simp [hq]
  rw [Array.getElem_modify_self, he]
  simp

theorem SBox.set0 {W : World} {B : Nat} {neg : Bool} {v : Value} (h : SBox W B neg v) (n : Bool) : SBox (W.setCell ⟨B, 0, none⟩ (.bool n)) B n v := by
  have h' : W.heap[B]? = _ := h
  obtain ⟨hq, he⟩ := Array.getElem?_eq_some_iff.1 h'
  unfold SBox World.setCell
  simp [hq]
  rw [Array.getElem_modify_self, he]
  simp
theorem Rd.set_sbox {W : World} {B : Nat} {neg : Bool} {A : Option Addr} {n c : Nat} (hb : SBox W B neg (.slice A n c)) {v : Value} {xs : List Int} (hr : Rd W v xs) (o : Nat) (u : Value) : Rd (W.setCell ⟨B, o, none⟩ u) v xs := by
  refine (Turn.setCell (X := [B]) W B o u (by simp)).rd hr ?_
  intro k hk hrow
  rw [List.mem_singleton] at hk
  subst hk
  obtain ⟨A', c', rfl, _, _, hx⟩ := hr
  unfold rowOf at hrow
  split at hrow
  · cases hrow
  · rename_i hne
    obtain ⟨b, q, rfl, hy⟩ := hx (List.length_pos_iff.2 hne)
    simp only [Value.ownBlock, Option.some.injEq] at hrow
    subst hrow
    have h0 := hy 0 (List.length_pos_iff.2 hne)
    have h1 : W.cell? ⟨b, q + 0, none⟩ = #[Value.bool neg, .slice A n c][q + 0]? := by simp [World.cell?, show W.heap[b]? = _ from hb]
    rw [h1] at h0
    match q, h0 with
    | 0, h0 => simp at h0
    | 1, h0 => simp at h0
    | k + 2, h0 => simp at h0

theorem atoi_any (p : ByteArray) (hn : p.data.toList ≠ []) (ha : p.data.toList.all isD = true) (hl : p.data.toList.length ≤ 4) (w : World) :
    Calls Tryz.prog 299 #[.string p] w fun e w' => e = .returned (.tuple #[.int .i64 (dval p.data.toList), .nilIface]) ∧ Below w.heap.size w w' := by
  refine (Tryz.strconv_Atoi_ok p (by have : p.size = p.data.toList.length := rfl; omega) _ (atoi_digits hn ha (by omega)) w).mono ?_
  rintro e w' ⟨rfl, h⟩
  refine ⟨rfl, ?_⟩
  rcases h with rfl | ⟨t, rfl⟩
  · exact Below.refl _ _
  · exact Lib.bytesWorld_below _ _ _

/-- Facts of the text that is parsed. -/
theorem head_len (l : List UInt8) : decide ((body l).length < l.length) = decide (l.head? = some 45) := by
  unfold body
  cases l with
  | nil => simp
  | cons c r =>
    by_cases h : c = 45
    · subst h; simp
    · simp [h]
theorem upto_list (s : ByteArray) (k : Nat) : (s.extract 0 k).data.toList = s.data.toList.take k := by
  obtain ⟨⟨l⟩⟩ := s
  simp [ByteArray.data_extract]
theorem valid_parts {l : List UInt8} (h : validL l = true) : body l ≠ [] ∧ (body l).length ≤ 200 ∧ (body l).all isD = true := by
  unfold validL at h
  simp only [Bool.and_eq_true, decide_eq_true_eq] at h
  obtain ⟨⟨⟨h1, h2⟩, h3⟩, _⟩ := h
  exact ⟨by simpa using h1, h2, h3⟩

set_option maxHeartbeats 2000000 in
set_option maxRecDepth 100000 in
theorem parse_any (s : ByteArray) (w : World) (h : validL s.data.toList = true) :
    Calls Tryz.prog 239 #[.string s] w fun e w' => ∃ v, e = .returned (.agg #[.bool (decide (s.data.toList.head? = some 45)), v]) ∧ Rd w' v (dg 10000 (dval (body s.data.toList))) ∧ Below w.heap.size w w' := by
  obtain ⟨hD0, hD1, hD2⟩ := valid_parts h
  clear h
  obtain ⟨ds, hds⟩ : ∃ d : ByteArray, d = ⟨(body s.data.toList).toArray⟩ := ⟨_, rfl⟩
  have hlen := head_len s.data.toList
  have hz : ds.size = (body s.data.toList).length := by rw [hds]; simp [ByteArray.size]
  have hz' : s.size = s.data.toList.length := rfl
  rw [← hz, ← hz'] at hlen
  have TP := Lib.hid (trimp_any s)
  generalize body s.data.toList = D at *
  generalize decide (s.data.toList.head? = some 45) = neg at *
  have HDS := Lib.hid hds
  have HZ := Lib.hid hz
  have HD2 := Lib.hid hD2
  have HD0 := Lib.hid hD0
  have hdz : ds.size ≤ 200 := by omega
  have hP0 := Lib.hid (PI.start D)
  rw [← hz] at hP0
  have HT0 : Hid (ds.data.toList = D.take ds.size) := by
    have e : ds.data.toList = D := by rw [hds]
    rw [hz, List.take_length]; exact e
  clear hds hz hz' hD2 hD0
  go_enter Tryz.func239, Tryz.ntmps239
  go_wp2_with (go_at_call 294; (with_reducible refine (TP.out _).mono ?_); rintro e w1 ⟨⟨d, rfl, hd⟩, rfl⟩; obtain rfl : d = ds := hd.out.trans HDS.out.symm; clear hd)
  have hsb : SBox ((w.alloc (.cells #[.bool false, .slice none 0 0] 215)).alloc (.cells #[.bool neg, .slice none 0 0] 215)) (w.heap.size + 1) neg (.slice none 0 0) := by
    have := World.alloc_heap_new (w.alloc (.cells #[.bool false, .slice none 0 0] 215)) (.cells #[.bool neg, .slice none 0 0] 215)
    unfold SBox
    simpa using this
  have hsr : SBox ((w.alloc (.cells #[.bool false, .slice none 0 0] 215)).alloc (.cells #[.bool neg, .slice none 0 0] 215)) w.heap.size false (.slice none 0 0) :=
    ((below1 _ _).block _ (by simp)).trans (World.alloc_heap_new w (.cells #[.bool false, .slice none 0 0] 215))
  have HSB := Lib.hid hsb
  have HSR := Lib.hid hsr
  clear hsb hsr
  go_loopg [3] d.size (fun kx s3 wr => ∃ (m : Nat) (ds : ByteArray) (g : List Int) (v : Value), s3 = .string ds ∧ Hid (ds.data.toList = D.take m) ∧ Hid (ds.size = m) ∧ m ≤ 200 ∧ m ≤ kx ∧ Hid (PI D m g) ∧
    Hid (SBox wr (w.heap.size + 1) neg v) ∧ Hid (SBox wr w.heap.size false (.slice none 0 0)) ∧ wr.ownsRow (w.heap.size + 2) 3 1 v g.length (g.map (Value.int .i64)) ∧ Below w.heap.size w wr)
  case atStart => exact ⟨d.size, d, [], _, rfl, HT0, rfl, hdz, Nat.le_refl _, hP0, HSB, HSR, World.ownsRow_nil _ _ _ _, below2 _ _ _⟩
  case round =>
    obtain ⟨m, ds, g, v, rfl, hT, hsz, hm2, hmk, hPI, hsb, hsr, hown, hnx⟩ := hrel
    have HOWN := Lib.hid hown
    have hsz' := hsz.out
    subst hsz'
    clear hsz
    have hgl : g.length ≤ 200 := by have := hPI.out.len; omega
    have HR := Lib.hid (Rd.own hown (by omega))
    obtain ⟨A, c, rfl, -, -, -⟩ := HR.out
    clear hown
    have hc1 := hsb.out.cell1
    have hf1 := hsb.out.frozen 1
    rcases Nat.eq_zero_or_pos ds.size with h0 | h0
    · have hgt : ¬ (0 : Int) < (ds.size : Int) := by omega
      have hpd : (nv 10000 g).toNat = dval D := by
        have h := hPI.out
        rw [h0] at h
        rw [h.done]; rfl
      have TR := Lib.hid (trimmed_any _ g wr HR.out hPI.out.dig)
      rw [hpd] at TR
      clear h0 hpd
      go_wp2_with (go_at_call 241; (with_reducible refine TR.out.mono ?_); rintro e w2 ⟨v2, rfl, hr2, rfl⟩; obtain ⟨A2, c2, rfl, -⟩ := id hr2; have hS2 := hsb.out.set (.slice A2 (dg 10000 (dval D)).length c2); have hS0 := hsr.out.other (b := w.heap.size + 1) (by omega) 1 (.slice A2 (dg 10000 (dval D)).length c2); have hsc0 := hS2.cell0; have hsc1 := hS2.cell1; have hsd0 := hS0.cell0; have hsd1 := hS0.cell1; have hsf0 := hS0.frozen 0; have hsf1 := hS0.frozen 1)
      have hS3 := hS0.set0 neg
      have hS4 := hS3.set (.slice A2 (dg 10000 (dval D)).length c2)
      have hr4 := Rd.set_sbox hS3 (Rd.set_sbox hS0 (Rd.set_sbox hsb.out hr2 1 (.slice A2 (dg 10000 (dval D)).length c2)) 0 (.bool neg)) 1 (.slice A2 (dg 10000 (dval D)).length c2)
      have h40 := hS4.cell0
      have h41 := hS4.cell1
      have hT := ((Turn.setCell (X := [w.heap.size, w.heap.size + 1]) w2 (w.heap.size + 1) 1 (.slice A2 (dg 10000 (dval D)).length c2) (by simp)).trans (Turn.setCell _ w.heap.size 0 (.bool neg) (by simp))).trans (Turn.setCell _ w.heap.size 1 (.slice A2 (dg 10000 (dval D)).length c2) (by simp))
      refine bodyPost_ret (v := .agg #[.bool neg, .slice A2 (dg 10000 (dval D)).length c2]) (by simp [results, Tryz.results239, go_sem, h40, h41]) rfl ⟨_, rfl, hr4, hT.below hnx (Nat.le_refl _) (by simp)⟩
    · have hgt : (0 : Int) < (ds.size : Int) := by omega
      have hwr : IntKind.i64.wrap ((ds.size : Int) - 4) = (ds.size : Int) - 4 := IntWalk.i64_in _ (by omega)
      have hmx : max (0 : Int) ((ds.size : Int) - 4) = ((ds.size - 4 : Nat) : Int) := by omega
      obtain ⟨p, hp⟩ : ∃ p, p = ds.extract (ds.size - 4) ds.size := ⟨_, rfl⟩
      have hpl : p.data.toList = (D.take ds.size).drop (ds.size - 4) := by rw [hp, Lib.extract_to_end, hT.out]
      have hml : ds.size ≤ D.length := by have := hPI.out.len; omega
      have hpn : p.data.toList.length = ds.size - (ds.size - 4) := by rw [hpl, piece_len hml]
      have AT := Lib.hid (atoi_any p (fun e => by rw [e] at hpn; simp at hpn; omega) (by rw [hpl]; exact piece_all HD2.out _) (by omega) wr)
      have HST := Lib.hid (hPI.out.step HD2.out h0)
      rw [← hpl] at HST
      have HP := Lib.hid hp
      clear hpl hpn hp hPI
      go_wp2_with (first
        | (go_at_call 299; rw [← HP.out]; (with_reducible refine AT.out.mono ?_); rintro e w2 ⟨rfl, hb2⟩; have hc2 := (hb2.cell (cell_lt hc1)).trans hc1; have hf2 := (hsb.out.below hb2 hsb.out.lt).frozen 1)
        | (at_builtin; refine app_one rfl (.tmp 31) (.tmp 33) rfl (w.heap.size + 2) _ g (dval p.data.toList) rfl (own_below HOWN.out hb2) rfl (by omega) (by have := hsb.out.lt; have := hb2.size; omega) ?_; intro v' w3 hown3 hb3; have HOWN3 := Lib.hid hown3; have HB3 := Lib.hid hb3; obtain ⟨A3, c3, rfl, -⟩ := Rd.own hown3 (by simp; omega); clear hown3 hb3; have hs3 := (hsb.out.below hb2 hsb.out.lt).below (HB3.out (w.heap.size + 2) w2 (Below.refl _ _) (Nat.le_refl _)) (by omega); have hc3 := hs3.cell1; have hf3 := hs3.frozen 1))
      have hr3 := (hsr.out.below hb2 hsr.out.lt).below (HB3.out (w.heap.size + 2) w2 (Below.refl _ _) (Nat.le_refl _)) (by omega)
      go_roundg (ds.size - 4)
      case measure => omega
      case rel => exact ⟨ds.size - 4, ds.extract 0 (ds.size - 4), _, _, rfl, by rw [upto_list, hT.out, List.take_take, Nat.min_eq_left (by omega)]; exact rfl, Lib.hid (by rw [ByteArray.size_extract]; omega), by omega, Nat.le_refl _, HST.out,
          hs3.set _, hr3.other (b := w.heap.size + 1) (by omega) _ _, by (have h := own_set HOWN3.out (w.heap.size + 1) 1 (by omega) (.slice A3 (g.length + 1) c3)); simp only [List.length_append, List.length_singleton] at h ⊢; exact h, (Turn.setCell (X := [w.heap.size + 1]) _ _ _ _ (by simp)).below (HB3.out w.heap.size w (hnx.trans (hb2.mono hnx.size)) (by omega)) (Nat.le_refl _) (by simp)⟩

end Go.Proofs.YtffndcjmabjhiaaGreatDoor

namespace Go.Proofs.YtffndcjmabjhiaaGreatDoor
open Go.RowKit Num
open Go.Shelf

/-- A struct value that is the number z, its sign as it is parsed. -/
def Sc (w : World) (s : Value) (z : Int) : Prop := ∃ A c, s = .agg #[.bool (decide (z < 0)), .slice A (dg 10000 z.natAbs).length c] ∧ Rd w (.slice A (dg 10000 z.natAbs).length c) (dg 10000 z.natAbs)

theorem rd_valid {s : ByteArray} {z : Int} (h : rdI s = some z) : validL s.data.toList = true ∧ decide (s.data.toList.head? = some 45) = decide (z < 0) ∧ dval (body s.data.toList) = z.natAbs := by
  have hv : validL s.data.toList = true := by
    unfold rdI at h
    split at h
    · assumption
    · cases h
  obtain ⟨rfl, _⟩ := rdI_some h
  have e : (tx z).data.toList = Lib.itoa z := rfl
  refine ⟨hv, ?_, by rw [e, body_itoa, dval_dec]⟩
  rw [e]
  rcases Int.lt_or_le z 0 with h0 | h0
  · rw [itoa_neg h0]; simp [h0]
  · rw [itoa_nonneg h0]
    have h1 := dec_head45 z.natAbs
    have h2 : ¬ z < 0 := by omega
    simp [h1, h2]
theorem rd_none {s : ByteArray} (h : rdI s = none) : validL s.data.toList = false := by
  unfold rdI at h
  split at h
  · cases h
  · rename_i hn; simpa using hn
theorem parse_rd {s : ByteArray} {z : Int} (h : rdI s = some z) (w : World) : Calls Tryz.prog 239 #[.string s] w fun e w' => (∃ u, e = .returned u ∧ Sc w' u z) ∧ Below w.heap.size w w' := by
  obtain ⟨h1, h2, h3⟩ := rd_valid h
  refine (parse_any s w h1).mono ?_
  rintro e w' ⟨v, rfl, hr, hb⟩
  rw [h2]
  rw [h3] at hr
  obtain ⟨A, c, rfl, -⟩ := id hr
  exact ⟨⟨_, rfl, A, c, rfl, hr⟩, hb⟩

/-- Both structs are stored. -/
theorem two_boxes {w W : World} {z : Nat} (hb : Below z w W) (h1 : SBox W z false (.slice none 0 0)) (h2 : SBox W (z + 1) false (.slice none 0 0)) (n1 n2 : Bool) (A1 A2 : Option Addr) (k1 k2 c1 c2 : Nat) :
    ∀ W5, W5 = (((W.setCell ⟨z, 0, none⟩ (.bool n1)).setCell ⟨z, 1, none⟩ (.slice A1 k1 c1)).setCell ⟨z + 1, 0, none⟩ (.bool n2)).setCell ⟨z + 1, 1, none⟩ (.slice A2 k2 c2) →
    SBox W5 z n1 (.slice A1 k1 c1) ∧ SBox W5 (z + 1) n2 (.slice A2 k2 c2) ∧ Below z w W5 ∧ ∀ v xs, Rd W v xs → Rd W5 v xs := by
  rintro W5 rfl
  have a1 := h1.set0 n1
  have a2 := a1.set (.slice A1 k1 c1)
  have b1 := h2.other (b := z) (by omega) 0 (.bool n1)
  have b2 := b1.other (b := z) (by omega) 1 (.slice A1 k1 c1)
  have b3 := b2.set0 n2
  refine ⟨(a2.other (by omega) _ _).other (by omega) _ _, b3.set _, ?_, fun v xs h => Rd.set_sbox b3 (Rd.set_sbox b2 (Rd.set_sbox a1 (Rd.set_sbox h1 h _ _) _ _) _ _) _ _⟩
  have hT := (((Turn.setCell (X := [z, z + 1]) W z 0 (.bool n1) (by simp)).trans (Turn.setCell _ z 1 (.slice A1 k1 c1) (by simp))).trans (Turn.setCell _ (z + 1) 0 (.bool n2) (by simp))).trans (Turn.setCell _ (z + 1) 1 (.slice A2 k2 c2) (by simp))
  exact hb.trans ⟨hT.os, hT.tape, hT.output, hT.size, fun k hk => by
    rcases Nat.lt_or_ge k W.heap.size with h | h
    · exact hT.block k h (by simp; omega)
    · rw [Array.getElem?_eq_none h, Array.getElem?_eq_none (by simpa using h)]⟩

def nilS : Value := .agg #[.bool false, .slice none 0 0]
def RetBoth (w : World) (a b : ByteArray) (e : Ending) (w' : World) : Prop := Below w.heap.size w w' ∧
  ((∃ x y u v, rdI a = some x ∧ rdI b = some y ∧ e = .returned (.tuple #[u, v, .bool true]) ∧ Sc w' u x ∧ Sc w' v y) ∨ ((rdI a = none ∨ rdI b = none) ∧ e = .returned (.tuple #[nilS, nilS, .bool false])))

set_option maxHeartbeats 1000000 in
theorem both_any (a b : ByteArray) (w : World) : Calls Tryz.prog 160 #[.string a, .string b] w (RetBoth w a b) := by
  have hsb : SBox ((w.alloc (.cells #[.bool false, .slice none 0 0] 215)).alloc (.cells #[.bool false, .slice none 0 0] 215)) (w.heap.size + 1) false (.slice none 0 0) := by
    have := World.alloc_heap_new (w.alloc (.cells #[.bool false, .slice none 0 0] 215)) (.cells #[.bool false, .slice none 0 0] 215)
    unfold SBox
    simpa using this
  have hsr : SBox ((w.alloc (.cells #[.bool false, .slice none 0 0] 215)).alloc (.cells #[.bool false, .slice none 0 0] 215)) w.heap.size false (.slice none 0 0) :=
    ((below1 _ _).block _ (by simp)).trans (World.alloc_heap_new w (.cells #[.bool false, .slice none 0 0] 215))
  have HSB := Lib.hid hsb
  have HSR := Lib.hid hsr
  clear hsb hsr
  have fin : ∀ W, Below ((w.alloc (.cells #[.bool false, .slice none 0 0] 215)).alloc (.cells #[.bool false, .slice none 0 0] 215)).heap.size ((w.alloc (.cells #[.bool false, .slice none 0 0] 215)).alloc (.cells #[.bool false, .slice none 0 0] 215)) W →
      SBox W w.heap.size false (.slice none 0 0) ∧ SBox W (w.heap.size + 1) false (.slice none 0 0) ∧ Below w.heap.size w W := fun W hb => ⟨HSR.out.below hb HSR.out.lt, HSB.out.below hb HSB.out.lt, (below2 _ _ _).trans (hb.mono (by simp; omega))⟩
  have FIN := Lib.hid fin
  clear fin
  go_enter Tryz.func160, Tryz.ntmps160
  cases ha : rdI a with
  | none =>
    have hva := rd_none ha
    have HA := Lib.hid ha
    clear ha
    go_wp2_with (go_at_call 232; (with_reducible refine (valid_any _ _).mono ?_); rintro e W1 ⟨rfl, hb1⟩; obtain ⟨s1, s2, hbw⟩ := FIN.out W1 hb1; have hf0 := s1.frozen 0; have hf1 := s1.frozen 1; have hg0 := s2.frozen 0; have hg1 := s2.frozen 1; have hc0 := s1.cell0; have hc1 := s1.cell1; have hd0 := s2.cell0; have hd1 := s2.cell1)
    obtain ⟨t1, t2, t3, -⟩ := two_boxes hbw s1 s2 false false none none 0 0 0 0 _ rfl
    have e1 := t1.cell0
    have e2 := t1.cell1
    have e3 := t2.cell0
    have e4 := t2.cell1
    refine bodyPost_ret (v := .tuple #[nilS, nilS, .bool false]) (by simp [results, nilS, Tryz.results160, go_sem, e1, e2, e3, e4]) rfl ⟨t3, .inr ⟨.inl HA.out, rfl⟩⟩
  | some x =>
    have hva := (rd_valid ha).1
    have HA := Lib.hid ha
    clear ha
    cases hb : rdI b with
    | none =>
      have hvb := rd_none hb
      have HB := Lib.hid hb
      clear hb
      go_wp2_with (first
        | (go_at_call 232; (with_reducible refine (valid_any a _).mono ?_); rintro e W1 ⟨rfl, hb1⟩)
        | (go_at_call 232; (with_reducible refine (valid_any b _).mono ?_); rintro e W2 ⟨rfl, hb2⟩; obtain ⟨s1, s2, hbw⟩ := FIN.out W2 (below_up hb1 hb2); have hf0 := s1.frozen 0; have hf1 := s1.frozen 1; have hg0 := s2.frozen 0; have hg1 := s2.frozen 1; have hc0 := s1.cell0; have hc1 := s1.cell1; have hd0 := s2.cell0; have hd1 := s2.cell1))
      obtain ⟨t1, t2, t3, -⟩ := two_boxes hbw s1 s2 false false none none 0 0 0 0 _ rfl
      have e1 := t1.cell0
      have e2 := t1.cell1
      have e3 := t2.cell0
      have e4 := t2.cell1
      refine bodyPost_ret (v := .tuple #[nilS, nilS, .bool false]) (by simp [results, nilS, Tryz.results160, go_sem, e1, e2, e3, e4]) rfl ⟨t3, .inr ⟨.inr HB.out, rfl⟩⟩
    | some y =>
      have hvb := (rd_valid hb).1
      have HB := Lib.hid hb
      clear hb
      go_wp2_with (first
        | (go_at_call 232; (with_reducible refine (valid_any a _).mono ?_); rintro e W1 ⟨rfl, hb1⟩)
        | (go_at_call 232; (with_reducible refine (valid_any b _).mono ?_); rintro e W2 ⟨rfl, hb2⟩)
        | (go_at_call 239; (with_reducible refine (parse_rd HA.out _).mono ?_); rintro e W3 ⟨⟨u, rfl, hu⟩, hb3⟩)
        | (go_at_call 239; (with_reducible refine (parse_rd HB.out _).mono ?_); rintro e W4 ⟨⟨v, rfl, hv⟩, hb4⟩; obtain ⟨A1, c1, rfl, hr1⟩ := hu; obtain ⟨A2, c2, rfl, hr2⟩ := hv; obtain ⟨s1, s2, hbw⟩ := FIN.out W4 (below_up (below_up (below_up hb1 hb2) hb3) hb4); have hf0 := s1.frozen 0; have hf1 := s1.frozen 1; have hg0 := s2.frozen 0; have hg1 := s2.frozen 1; have hc0 := s1.cell0; have hc1 := s1.cell1; have hd0 := s2.cell0; have hd1 := s2.cell1))
      obtain ⟨t1, t2, t3, t4⟩ := two_boxes hbw s1 s2 (decide (x < 0)) (decide (y < 0)) A1 A2 (dg 10000 x.natAbs).length (dg 10000 y.natAbs).length c1 c2 _ rfl
      have e1 := t1.cell0
      have e2 := t1.cell1
      have e3 := t2.cell0
      have e4 := t2.cell1
      refine bodyPost_ret (v := .tuple #[.agg #[.bool (decide (x < 0)), .slice A1 (dg 10000 x.natAbs).length c1], .agg #[.bool (decide (y < 0)), .slice A2 (dg 10000 y.natAbs).length c2], .bool true]) (by simp [results, Tryz.results160, go_sem, e1, e2, e3, e4]) rfl
        ⟨t3, .inl ⟨x, y, _, _, HA.out, HB.out, rfl, ⟨A1, c1, rfl, t4 _ _ (hr1.below hb4)⟩, ⟨A2, c2, rfl, t4 _ _ hr2⟩⟩⟩

end Go.Proofs.YtffndcjmabjhiaaGreatDoor
