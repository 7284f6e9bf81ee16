/- Package integer's 'text': the decimal text of groups of digits. Conditions: sizes; the tables that strconv.Itoa reads. -/
import Derived.Test.YtcpkejpdpohfeaaGreatDoorI9
import Derived.Test.YtcpkejpdpohfeaaGreatDoorShelf
import Derived.Shelf.Strings.BuilderK
import Derived.WalkSmall
namespace Go.Proofs.YtcpkejpdpohfeaaGreatDoor
open Go.RowKit Num
open Go.Shelf
attribute [local go_sem] Oper.semAt_some

/-- What the library's calls read of the package-level variables. -/
def Laid (w : World) : Prop := Lib.TabIs Tryz.prog w "internal/strconv.uint64pow10" .u64 Lib.pow10Tab ∧
  ∃ t1 p1 t2 p2, w.var? Tryz.prog "strconv.ErrSyntax" = some #[.iface t1 p1] ∧ w.var? Tryz.prog "strconv.ErrRange" = some #[.iface t2 p2]

theorem var_up {w w' : World} {n : String} {cs : Array Value} (hb : Below w.heap.size w w') (h : w.var? Tryz.prog n = some cs) : w'.var? Tryz.prog n = some cs := by
  unfold World.var? at h ⊢
  cases hg : Tryz.prog.globalNamed n with
  | none => rw [hg] at h; cases h
  | some g =>
    rw [hg] at h
    simp only [Option.bind_some] at h ⊢
    cases ho : w.heap[g]? with
    | none => rw [ho] at h; cases h
    | some o => rw [hb.block g (Array.getElem?_eq_some_iff.1 ho).1]; exact h
theorem Laid.below {w w' : World} (h : Laid w) (hb : Below w.heap.size w w') : Laid w' :=
  let ⟨h1, t1, p1, t2, p2, h2, h3⟩ := h
  ⟨var_up hb h1, t1, p1, t2, p2, var_up hb h2, var_up hb h3⟩

/-! ### The text of groups of digits -/
def gt (n : Nat) (x : Fin (dg 10000 n).length) : List UInt8 := if x.1 < (dg 10000 n).length - 1 then pad 4 (dgn n x.1) else Lib.decDigits (dgn n x.1)
def tb (n : Nat) (pre : List (Fin (dg 10000 n).length)) : List UInt8 := pre.foldl (fun s x => s ++ gt n x) []
theorem tb_snoc (n : Nat) (pre : List (Fin (dg 10000 n).length)) (x : Fin (dg 10000 n).length) : tb n (pre ++ [x]) = tb n pre ++ gt n x := by unfold tb; rw [List.foldl_append]; rfl
theorem pad_len : ∀ (k r : Nat), (pad k r).length = k
  | 0, r => rfl
  | k + 1, r => by rw [pad, List.length_append, pad_len k]; rfl
theorem gt_len (n : Nat) (x : Fin (dg 10000 n).length) : (gt n x).length ≤ 4 := by
  unfold gt
  split
  · rw [pad_len]; exact Nat.le_refl _
  · exact dec_len (by omega) (by have := dgn_le n x.1; omega)
theorem tb_len_gen (n : Nat) : ∀ (pre : List (Fin (dg 10000 n).length)) (s : List UInt8), (pre.foldl (fun s x => s ++ gt n x) s).length ≤ s.length + 4 * pre.length
  | [], s => by simp
  | x :: pre, s => by
    rw [List.foldl_cons]
    have h1 := tb_len_gen n pre (s ++ gt n x)
    have h2 := gt_len n x
    rw [List.length_append] at h1
    rw [List.length_cons]
    omega
theorem tb_len (n : Nat) (pre : List (Fin (dg 10000 n).length)) : (tb n pre).length ≤ 4 * pre.length := by
  have := tb_len_gen n pre []
  unfold tb
  simpa using this
theorem dgn_last {n : Nat} (h : 0 < (dg 10000 n).length) : 0 < dgn n ((dg 10000 n).length - 1) := by
  have hl := dg_last (B := 10000) (by omega) n
  have he := dgn_eq n ((dg 10000 n).length - 1)
  rcases Nat.eq_zero_or_pos (dgn n ((dg 10000 n).length - 1)) with h0 | h0
  · exfalso
    rw [h0] at he
    apply hl
    rw [List.getLast?_eq_getElem?]
    unfold nth at he
    rw [List.getElem?_eq_getElem (by omega)] at he ⊢
    simp only [Option.getD_some] at he
    rw [he]
    rfl
  · exact h0
theorem tb_down (n : Nat) : ∀ k, k + 1 ≤ (dg 10000 n).length → 0 < tm 1 n (down (dg 10000 n).length (k + 1)) ∧ tb n (down (dg 10000 n).length (k + 1)) = Lib.decDigits (tm 1 n (down (dg 10000 n).length (k + 1)))
  | 0, h => by
    rw [down_succ h, tm_snoc, tb_snoc]
    have h1 := dgn_last (n := n) h
    have e1 : tm 1 n (down (dg 10000 n).length 0) = 0 := rfl
    have e2 : tb n (down (dg 10000 n).length 0) = [] := rfl
    rw [e1, e2]
    simp only [Nat.sub_zero, Nat.zero_mul, Nat.one_mul, Nat.zero_add, List.nil_append]
    refine ⟨h1, ?_⟩
    unfold gt
    rw [if_neg (by simp)]
  | k + 1, h => by
    have ih := tb_down n k (by omega)
    rw [down_succ (show k + 1 < (dg 10000 n).length from h), tm_snoc, tb_snoc, ih.2]
    have hd := dgn_le n ((dg 10000 n).length - 1 - (k + 1))
    refine ⟨by have := ih.1; omega, ?_⟩
    unfold gt
    rw [if_pos (by show (dg 10000 n).length - 1 - (k + 1) < (dg 10000 n).length - 1; omega), Nat.one_mul]
    exact (dec_pad ih.1 4 _ (show dgn n ((dg 10000 n).length - 1 - (k + 1)) < 10 ^ 4 by omega)).symm
theorem tb_all {n : Nat} (h : 0 < n) : tb n (down (dg 10000 n).length (dg 10000 n).length) = Lib.decDigits n := by
  have hl : 0 < (dg 10000 n).length := by
    have : dg 10000 n ≠ [] := fun e => by rw [dg_eq_nil (by omega)] at e; omega
    exact List.length_pos_iff.2 this
  obtain ⟨k, hk⟩ : ∃ k, (dg 10000 n).length = k + 1 := ⟨(dg 10000 n).length - 1, by omega⟩
  have h1 := (tb_down n k (by omega)).2
  rw [← hk, tm_all, Nat.one_mul] at h1
  exact h1
theorem rep_eq (c : UInt8) : ∀ k, Lib.repeatL [c] k = List.replicate k c
  | 0 => rfl
  | k + 1 => by rw [Lib.repeatL, rep_eq c k]; rfl
/-- The text of a group that stands behind another. -/
theorem pad_text {d : Nat} (h : d ≤ 9999) : Lib.repeatL [48] (4 - (Lib.decDigits d).length) ++ Lib.decDigits d = pad 4 d := by
  rw [rep_eq, pad_eq 4 d (by omega) (by omega)]

/-! ### The builder -/
theorem ws_k (B b : Nat) (bs : List Value) (s : ByteArray) (w : World) (h : Lib.IsBuilderF 76 5 B b bs w) (hlen : bs.length + s.size ≤ 140737488355328) (hBw : B ≤ w.heap.size) :
    Calls Tryz.prog 62 #[.pointer (some ⟨b, 0, none⟩), .string s] w fun e w' => e = .returned (.tuple #[.int .i64 s.size, .nilIface]) ∧
      (Lib.BuilderAtF 76 5 B b (.pointer (some ⟨b, 0, none⟩)) (bs ++ Lib.strCells s) w' ∧ Below B w w' ∧ Lib.OthersKept 5 (some b) w w') :=
  Any.Builder_WriteString_k (ρ := Tryz.lays105_ren) { Tryz.lays105 with } Tryz.Builder_Extra_105 B b bs s w h hlen hBw

theorem isBuilder_co {W W' : World} (h : ∀ (k : Nat) (o : Obj), W.heap[k]? = some o → o.isCells = true → W'.heap[k]? = some o) {T e : TypeId} {B b : Nat} {bs : List Value} (hb : Lib.IsBuilderF T e B b bs W) : Lib.IsBuilderF T e B b bs W' := by
  have one : ∀ p, Lib.BuilderAtF T e B b p bs W → Lib.BuilderAtF T e B b p bs W' := by
    rintro p ⟨hB, v, h1, h2, h3⟩
    refine ⟨hB, v, h _ _ h1 rfl, ⟨h2.1, ?_⟩, h3⟩
    rcases h2.2 with h4 | ⟨g, cap, cur, fz, h5, h6, h7, h8⟩
    · exact .inl h4
    · exact .inr ⟨g, cap, cur, fz, h5, h6, h _ _ h7 rfl, h8⟩
  exact hb.elim (fun x => .inl (one _ x)) (fun x => .inr (one _ x))
theorem isBuilder_new (W : World) : Lib.IsBuilderF 76 5 W.heap.size W.heap.size [] (W.alloc (.cells #[.pointer none, .slice none 0 0] 76)) :=
  .inl ⟨Nat.le_refl _, _, World.alloc_heap_new W _, World.ownsRowF_nil _ _ _ _, by simp [Value.ownBlock]⟩
theorem isBuilder_below {W W' : World} {T e : TypeId} {B b : Nat} {bs : List Value} (hb : Lib.IsBuilderF T e B b bs W) (h : Below W.heap.size W W') : Lib.IsBuilderF T e B b bs W' :=
  isBuilder_co (fun k _ ho _ => (h.block k (Array.getElem?_eq_some_iff.1 ho).1).trans ho) hb

end Go.Proofs.YtcpkejpdpohfeaaGreatDoor
