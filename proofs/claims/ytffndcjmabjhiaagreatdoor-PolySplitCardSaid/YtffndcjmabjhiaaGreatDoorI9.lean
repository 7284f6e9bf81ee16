/- The walk of package integer's 'over'. Conditions: sizes. -/
import Derived.Test.YtffndcjmabjhiaaGreatDoorK3
import Derived.Laws.EntriesVeiled
namespace Go.Proofs.YtffndcjmabjhiaaGreatDoor
open Go.RowKit Num
open Go.Shelf
attribute [local go_sem] Oper.semAt_some

/-- A block of numbers. -/
def Arr (W : World) (Q : Nat) (xs : List Int) : Prop := W.heap[Q]? = some (.cells (xs.map (Value.int .i64)).toArray 3 (0, 0))
theorem Arr.of_own {W : World} {base Q : Nat} {xs : List Int} {L : Nat} (h : W.ownsRow base 3 1 (.slice (some ⟨Q, 0, none⟩) L L) L (xs.map (Value.int .i64))) : Arr W Q xs := by
  obtain ⟨h1, h2⟩ := h
  rcases h2 with ⟨h3, _⟩ | ⟨g, cap, cur, h3, hg, hh, hl, hc, hcap, h4⟩
  · cases h3
  · cases h3
    unfold Arr
    rw [hh, ← h4, List.take_of_length_le (by rw [Array.length_toList, hcap]; exact Nat.le_refl _)]
theorem Arr.lt {W : World} {Q : Nat} {xs : List Int} (h : Arr W Q xs) : Q < W.heap.size := (Array.getElem?_eq_some_iff.1 h).1
theorem Arr.cell {W : World} {Q : Nat} {xs : List Int} (h : Arr W Q xs) {j : Nat} (hj : j < xs.length) : W.cell? ⟨Q, j, none⟩ = some (.int .i64 (nth xs j)) := by
  simp [World.cell?, show W.heap[Q]? = _ from h, nth, List.getElem?_eq_getElem hj]
theorem Arr.frozen {W : World} {Q : Nat} {xs : List Int} (h : Arr W Q xs) (j : Nat) : W.frozen? ⟨Q, j, none⟩ = false := by
  simp [World.frozen?, show W.heap[Q]? = _ from h]
theorem Arr.set {W : World} {Q : Nat} {xs : List Int} (h : Arr W Q xs) {j : Nat} (_hj : j < xs.length) (z : Int) : Arr (W.setCell ⟨Q, j, none⟩ (.int .i64 z)) Q (xs.set j z) := by
  have h' : W.heap[Q]? = _ := h
  obtain ⟨hq, he⟩ := Array.getElem?_eq_some_iff.1 h'
  unfold Arr World.setCell
  simp [hq, List.map_set]
  rw [Array.getElem_modify_self, he]
  simp
theorem Arr.block {W W' : World} {Q : Nat} {xs : List Int} (h : Arr W Q xs) (he : W'.heap[Q]? = W.heap[Q]?) : Arr W' Q xs := he.trans h
theorem Arr.below {W W' : World} {Q : Nat} {xs : List Int} (h : Arr W Q xs) (hb : Below W.heap.size W W') : Arr W' Q xs := h.block (hb.block Q h.lt)
theorem Arr.other {W : World} {Q : Nat} {xs : List Int} (h : Arr W Q xs) {B : Nat} (hne : Q ≠ B) (o : Nat) (u : Value) : Arr (W.setCell ⟨B, o, none⟩ u) Q xs :=
  h.block ((Turn.setCell (X := [B]) W B o u (by simp)).block Q h.lt (by simp [hne]))
theorem Arr.rd {W : World} {Q : Nat} {xs : List Int} {L : Nat} (h : Arr W Q xs) (hL : xs.length = L) (hm : L ≤ 1000000) : Rd W (.slice (some ⟨Q, 0, none⟩) L L) xs := by
  subst hL
  exact ⟨_, _, rfl, ⟨Nat.le_refl _, fun e => by cases e⟩, hm, fun _ => ⟨Q, 0, rfl, fun j hj => by rw [Nat.zero_add]; exact h.cell hj⟩⟩
theorem Boxed.otherc {W : World} {B B' : Nat} {t : TypeId} {v : Value} (h : Boxed W B t v) (hne : B ≠ B') (o : Nat) (u : Value) : Boxed (W.setCell ⟨B', o, none⟩ u) B t v :=
  ((Turn.setCell (X := [B']) W B' o u (by simp)).block B h.lt (by simp [hne])).trans h


/-- The call returns quotient and rest. -/
def RetQR (w : World) (q r : Nat) (e : Ending) (w' : World) : Prop := ∃ v u, e = .returned (.tuple #[v, u]) ∧ Rd w' v (dg 10000 q) ∧ Rd w' u (dg 10000 r) ∧ Below w.heap.size w w'

theorem nv_head (d r : Nat) : (nv 10000 ((d : Int) :: dg 10000 r)).toNat = r * 10000 + d := by
  rw [nv, nv_dg (by omega)]
  omega
theorem dig_head (d r : Nat) (hd : d ≤ 9999) : Dig 10000 ((d : Int) :: dg 10000 r) := by
  intro y hy
  rcases List.mem_cons.1 hy with rfl | h
  · omega
  · exact dig_dg (by omega) r y h
theorem boxed_new1 (w : World) (a : Addr) (v : Value) (t : TypeId) (u : Value) : Boxed ((w.setCell a v).alloc (.cells #[u] t)) w.heap.size t u := by
  have := Boxed.new (w.setCell a v) t u
  rwa [World.size_setCell] at this
theorem below3 (w : World) (o o' o'' : Obj) : Below w.heap.size w (((w.alloc o).alloc o').alloc o'') := (below2 w o o').alloc (by simp; omega) o''

/-- What the last region of a round leaves. -/
def Q9 (W5 : World) (B n : Nat) : Exit → Act → World → Prop := fun e _ w' => e = .normal ∧ ∃ w6 A6 c6, Below W5.heap.size W5 w6 ∧ Rd w6 (.slice A6 (dg 10000 n).length c6) (dg 10000 n) ∧ w' = w6.setCell ⟨B, 0, none⟩ (.slice A6 (dg 10000 n).length c6)
def Q8 (W2 : World) (B x k : Nat) (a0 : Act) : Exit → Act → World → Prop := fun e a' w' => e = .normal ∧ ∃ w4, Below W2.heap.size W2 w4 ∧ a' = a0 ∧ w' = w4.setCell ⟨B, x, none⟩ (.int .i64 (k : Nat))

set_option maxHeartbeats 2000000 in
set_option maxRecDepth 100000 in
theorem over_any (a b : Nat) (v u : Value) (w : World) (hv : Rd w v (dg 10000 a)) (hu : Rd w u (dg 10000 b)) (hb : 0 < b) (hs : a < big) (hs' : b < 10000 ^ 199) :
    Calls Tryz.prog 161 #[v, u] w (RetQR w (a / b) (a % b)) := by
  have BK := fun W (h : Rd W v (dg 10000 a)) => backward_any v (dg 10000 a) W h
  have hla := dg_big hs
  have HV := Lib.hid hv
  have HU := Lib.hid hu
  obtain ⟨A, c, rfl, -, -, -⟩ := hv
  obtain ⟨A', c', rfl, -, -, -⟩ := hu
  have hle : (dg 10000 a).length ≤ 900000 := by omega
  have bq : Boxed (((w.alloc (.cells #[.slice A' (dg 10000 b).length c'] 213)).alloc (.cells #[.slice none 0 0] 213)).alloc (.cells #[.slice none 0 0] 213)) (w.heap.size + 1) 213 (.slice none 0 0) := by
    have := (Boxed.new (w.alloc (.cells #[.slice A' (dg 10000 b).length c'] 213)) 213 (.slice none 0 0)).alloc (.cells #[.slice none 0 0] 213)
    rwa [World.size_alloc] at this
  have bm : Boxed (((w.alloc (.cells #[.slice A' (dg 10000 b).length c'] 213)).alloc (.cells #[.slice none 0 0] 213)).alloc (.cells #[.slice none 0 0] 213)) w.heap.size 213 (.slice A' (dg 10000 b).length c') :=
    ((Boxed.new _ _ _).alloc _).alloc _
  have br : Boxed (((w.alloc (.cells #[.slice A' (dg 10000 b).length c'] 213)).alloc (.cells #[.slice none 0 0] 213)).alloc (.cells #[.slice none 0 0] 213)) (w.heap.size + 2) 213 (.slice none 0 0) := by
    have := Boxed.new ((w.alloc (.cells #[.slice A' (dg 10000 b).length c'] 213)).alloc (.cells #[.slice none 0 0] 213)) 213 (.slice none 0 0)
    simpa using this
  have BM := Lib.hid bm
  have BR := Lib.hid br
  clear bm br
  refine (callsIn_wide (n := 6)).1 ?_
  refine callsIn_of_wp_marks Tryz.func161 rfl trivial ?_ rfl
  simp only [Tryz.ntmps161, List.size_toArray, List.length_cons, List.length_nil, Nat.reduceAdd, Nat.reduceSub, Array.replicate_succ, Array.replicate_zero, List.push_toArray, List.append_toArray, List.nil_append, List.cons_append]
  gi_wp2_with (first
   | (gi_at_make; refine make_ints_in rfl _ _ rfl (dg 10000 a).length rfl rfl hle ?_; intro w1 hown hb1; have hbq := boxed_below bq hb1; have hbqc := hbq.cell; have hbqf := hbq.frozen)
   | (refine ⟨trivial, ?_⟩; gi_at_call 240; refine (callsIn_wide.2 (BK _ (HV.out.below ((Turn.setCell (X := [w.heap.size + 1]) _ _ _ _ (by simp)).below ((below3 _ _ _ _).trans (hb1.mono (by simp; omega))) (Nat.le_refl _) (by simp))))).mono ?_; rintro e w' ⟨rfl, rfl⟩))
  have hz1 : w.heap.size + 4 ≤ w1.heap.size := by have := (hown.lt _ rfl).2; simp at this; omega
  have hB1 : Below w.heap.size w w1 := (below3 _ _ _ _).trans (hb1.mono (by simp; omega))
  have arr1 : Arr w1 (w.heap.size + 3) (List.replicate (dg 10000 a).length 0) := by
    simp only [World.size_alloc, Nat.add_assoc, Nat.reduceAdd] at hown
    exact Arr.of_own hown
  have bm1 := boxed_below BM.out hb1
  have br1 := boxed_below BR.out hb1
  obtain ⟨W0, hW0⟩ : ∃ W0, ((w1.setCell ⟨w.heap.size + 1, 0, none⟩ (.slice (some ⟨w.heap.size + 1 + 1 + 1, 0, none⟩) (dg 10000 a).length (dg 10000 a).length)).alloc (.cells #[.slice A (dg 10000 a).length c] 213)) = W0 := ⟨_, rfl⟩
  have hsz : W0.heap.size = w1.heap.size + 1 := by rw [← hW0]; simp
  have hB0 : Below w.heap.size w W0 := by
    rw [← hW0]; exact ((Turn.setCell (X := [w.heap.size + 1]) _ _ _ _ (by simp)).below hB1 (Nat.le_refl _) (by simp)).alloc (by simp; omega) _
  have bq0 : Boxed W0 (w.heap.size + 1) 213 (.slice (some ⟨w.heap.size + 3, 0, none⟩) (dg 10000 a).length (dg 10000 a).length) := by rw [← hW0]; exact (hbq.set _).alloc _
  have bm0 : Boxed W0 w.heap.size 213 (.slice A' (dg 10000 b).length c') := by rw [← hW0]; exact (bm1.other (by omega) _).alloc _
  have br0 : Boxed W0 (w.heap.size + 2) 213 (.slice none 0 0) := by rw [← hW0]; exact (br1.other (by omega) _).alloc _
  have arr0 : Arr W0 (w.heap.size + 3) (List.replicate (dg 10000 a).length 0) := by
    rw [← hW0]; have := arr1.other (B := w.heap.size + 1) (by omega) 0 (.slice (some ⟨w.heap.size + 1 + 1 + 1, 0, none⟩) (dg 10000 a).length (dg 10000 a).length)
    exact this.below ((Below.refl _ _).alloc (Nat.le_refl _) _)
  have bl : W0.cell? ⟨w1.heap.size, 0, none⟩ = some (.slice A (dg 10000 a).length c) := by
    rw [← hW0]; have := cell_new1 (w1.setCell ⟨w.heap.size + 1, 0, none⟩ (.slice (some ⟨w.heap.size + 1 + 1 + 1, 0, none⟩) (dg 10000 a).length (dg 10000 a).length)) (.slice A (dg 10000 a).length c) 213
    simpa using this
  rw [hW0]
  clear hW0 bq hb1 hbqc hbqf hbq hown arr1 bm1 br1
  refine range_back (by omega) (Bs := w1.heap.size) (v := .slice A (dg 10000 a).length c) (xs := dg 10000 a) (by simp [go_sem]) bl (HV.out.below hB0) rfl w hB0 [w.heap.size + 2, w.heap.size + 3]
    (fun k hk => by
      have hk' : k = w.heap.size + 2 ∨ k = w.heap.size + 3 := by simpa using hk
      exact ⟨by omega, by omega, by omega, fun e => by have := HV.out.row_lt e; omega⟩)
    (fun pre W => ∃ vr, Boxed W (w.heap.size + 2) 213 vr ∧ Rd W vr (dg 10000 (ost a b pre).1) ∧ Boxed W (w.heap.size + 1) 213 (.slice (some ⟨w.heap.size + 3, 0, none⟩) (dg 10000 a).length (dg 10000 a).length) ∧
      Arr W (w.heap.size + 3) (ost a b pre).2 ∧ Boxed W w.heap.size 213 (.slice A' (dg 10000 b).length c'))
    (fun _ _ _ => False)
    (fun s X Y hs _ hk => by obtain ⟨vr, h1, h2, h3, h4, h5⟩ := hs; exact ⟨vr, boxedCO hk h1, h2.cellsOnly hk, boxedCO hk h3, hk _ _ h4 rfl, boxedCO hk h5⟩)
    (fun _ _ _ _ hs _ _ => hs)
    ⟨_, br0, by rw [show (ost a b []).1 = 0 from rfl, dg_zero]; exact Rd.nil _, bq0, arr0, bm0⟩
    (fun x => { tmps := #[.slice A (dg 10000 a).length c, .slice A' (dg 10000 b).length c', undef, .pointer (some ⟨w.heap.size, 0, none⟩), .pointer (some ⟨w.heap.size + 1, 0, none⟩), .pointer (some ⟨w.heap.size + 2, 0, none⟩), .int .i64 (x.1 : Nat), .int .i64 (nth (dg 10000 a) x.1), undef, undef, .slice A (dg 10000 a).length c, .int .i64 ((dg 10000 a).length : Nat), .slice (some ⟨w.heap.size + 3, 0, none⟩) (dg 10000 a).length (dg 10000 a).length, .slice A (dg 10000 a).length c, .func (.func 300) #[] #[.pointer (some ⟨w1.heap.size, 0, none⟩)], .int .i64 (x.1 : Nat), .int .i64 (nth (dg 10000 a) x.1), undef, undef, undef, undef, undef, undef, undef, undef, undef, undef, undef, undef, undef, undef, undef, undef, undef, undef, undef, undef, undef, undef, undef, undef], defers := [] }) ?assign ?body ?done ?stop
  case assign =>
    intro l x W K hK
    gi_wp2
    exact hK
  case body =>
    rename_i K0 hK0
    clear hK0 K0 BK hsz hB0 hz1 hB1 BM BR hla
    rintro l pre x W ⟨vr, hbr, hrr, hbq, harr, hbm⟩ hbW htW hlen
    have hinv := ost_inv hb pre
    have hOs := Lib.hid (ost_snoc a b pre x)
    have hd := dgn_le a x.1
    have hxl := x.2
    rw [dgn_eq]
    generalize (ost a b pre).1 = r at *
    generalize (ost a b pre).2 = qs at *
    generalize dgn a x.1 = d at *
    have hrb : r < b := hinv.1
    have hql : qs.length = (dg 10000 a).length := hinv.2.2
    have hQS := Lib.hid hql
    clear htW hlen hs bq0 bm0 br0 arr0 bl hql hinv
    have hmq := hbq.cell
    have hmf := hbq.frozen
    have hrc := hbr.cell
    have hrf := hbr.frozen
    have hmc := hbm.cell
    have HBQ := Lib.hid hbq
    have HBR := Lib.hid hbr
    have HBM := Lib.hid hbm
    have HRR := Lib.hid hrr
    have HAR := Lib.hid harr
    obtain ⟨A0, c0, rfl, -, -, -⟩ := hrr
    clear hbq hbr hbm harr
    have hmixed : Tryz.prog.follows .mixedOrders = true := by kernel_rfl
    have hrcA := cell_up (.cells #[.int .i64 d] 3) hrc
    have hler : (dg 10000 r).length ≤ 900000 := by have := dg_big (show r < big by unfold big; omega); omega
    have HN := Lib.hid (nv_head d r)
    have HD := Lib.hid (dig_head d r hd)
    gi_wp2_with (first
      | (gi_at_builtin; refine app_cons_own rfl (.tmp 18) (.tmp 19) rfl d _ (dg 10000 r) rfl rfl HRR.out hler ?_; intro A1 c1 w2 hr1 hb1 how; have HOW := Lib.hid how; clear how; have hrf1 := (boxed_below HBR.out hb1).frozen; have hrc1 := (boxed_below HBR.out hb1).cell; have hmc1 := (boxed_below HBM.out hb1).cell)
      | (refine ⟨trivial, ?_⟩; gi_at_call 241; (with_reducible refine (CallsIn.inRound l (callsIn_wide.2 (trimmed_own _ _ _ hr1 HD.out))).mono ?_); rintro e w3 ⟨v2, rfl, hr2, rfl, htr⟩; have HTR := Lib.hid htr; clear htr; rw [HN.out] at hr2; obtain ⟨A2, c2, rfl, -⟩ := id hr2; have hmc2 := ((Turn.setCell (X := [w.heap.size + 2]) _ (w.heap.size + 2) 0 (.slice A2 (dg 10000 (r * 10000 + d)).length c2) (by simp)).cell hmc1 (by simp)); have hbn := boxed_new1 w3 ⟨w.heap.size + 2, 0, none⟩ (.slice A2 (dg 10000 (r * 10000 + d)).length c2) 273 .nilFunc; have hbnc := hbn.cell; have hbnf := hbn.frozen))
    have hF : W.heap.size ≤ w3.heap.size := hb1.size
    have hRow : ∀ k, (Value.slice A2 (dg 10000 (r * 10000 + d)).length c2).ownBlock = some k → W.heap.size ≤ k := fun k hk => HOW.out k (HTR.out ▸ hk)
    have HROW := Lib.hid hRow
    clear hRow HOW HTR
    have hz3 := HAR.out.lt
    have hzW : w.heap.size ≤ W.heap.size := hbW.size
    have hW2 : Turn [w.heap.size + 2] W ((w3.setCell ⟨w.heap.size + 2, 0, none⟩ (.slice A2 (dg 10000 (r * 10000 + d)).length c2)).alloc (.cells #[.func (.func 242) #[.slice A' (dg 10000 b).length c'] #[]] 273)) :=
      ((Turn.of_below hb1).trans (Turn.setCell _ _ _ _ (by simp))).trans (Turn.of_below (below1 _ _))
    have hr3 := (hr2.set_box (boxed_below HBR.out hb1) (.slice A2 (dg 10000 (r * 10000 + d)).length c2)).below (below1 _ (.cells #[.func (.func 242) #[.slice A' (dg 10000 b).length c'] #[]] 273))
    have bf3 := boxed_new1 w3 ⟨w.heap.size + 2, 0, none⟩ (.slice A2 (dg 10000 (r * 10000 + d)).length c2) 273 (.func (.func 242) #[.slice A' (dg 10000 b).length c'] #[])
    have br3 := ((boxed_below HBR.out hb1).set (.slice A2 (dg 10000 (r * 10000 + d)).length c2)).alloc (.cells #[.func (.func 242) #[.slice A' (dg 10000 b).length c'] #[]] 273)
    have bq3 := ((boxed_below HBQ.out hb1).other (show w.heap.size + 1 ≠ w.heap.size + 2 by omega) (.slice A2 (dg 10000 (r * 10000 + d)).length c2)).alloc (.cells #[.func (.func 242) #[.slice A' (dg 10000 b).length c'] #[]] 273)
    have bm3 := ((boxed_below HBM.out hb1).other (show w.heap.size ≠ w.heap.size + 2 by omega) (.slice A2 (dg 10000 (r * 10000 + d)).length c2)).alloc (.cells #[.func (.func 242) #[.slice A' (dg 10000 b).length c'] #[]] 273)
    have arr3 := ((HAR.out.below hb1).other (B := w.heap.size + 2) (by omega) 0 (.slice A2 (dg 10000 (r * 10000 + d)).length c2)).below (below1 _ (.cells #[.func (.func 242) #[.slice A' (dg 10000 b).length c'] #[]] 273))
    generalize hW2e : (w3.setCell ⟨w.heap.size + 2, 0, none⟩ (.slice A2 (dg 10000 (r * 10000 + d)).length c2)).alloc (.cells #[.func (.func 242) #[.slice A' (dg 10000 b).length c'] #[]] 273) = W2 at *
    clear hW2e hbn hbnc hbnf hmc2 hrc1 hmc1 hrf1 hr2 hr1 hb1 HBQ HBR HBM HRR HAR HN HD hrcA hmq hmf hrc hrf hmc
    generalize w3.heap.size = Fb at *
    have hBW2 : Below w.heap.size w W2 := hW2.below hbW (Nat.le_refl _) (by simp)
    have hRb : r * 10000 + d < b * 10000 := by
      have : (r + 1) * 10000 ≤ b * 10000 := Nat.mul_le_mul_right _ hrb
      omega
    have hbb : b < big := by unfold big; omega
    have hRbig : r * 10000 + d < big := by unfold big; omega
    clear hs' hrb hd
    generalize r * 10000 + d = R at *
    have hk : R / b ≤ 9999 := by have := Nat.div_lt_of_lt_mul hRb; omega
    have hbk : b * (R / b) ≤ R := Nat.mul_div_le R b
    have hmod : R - b * (R / b) = R % b := by have := Nat.div_add_mod R b; omega
    have SE := Lib.hid (show Calls Tryz.prog 244 #[.int .i64 9999, .func (.func 243) #[] #[.pointer (some ⟨Fb, 0, none⟩), .pointer (some ⟨w.heap.size + 2, 0, none⟩)]] W2.drew fun e w' => e = .returned (.int .i64 ((R / b : Nat) : Int)) ∧ Below W2.drew.heap.size W2.drew w' from by
      refine (search_any 243 #[.pointer (some ⟨Fb, 0, none⟩), .pointer (some ⟨w.heap.size + 2, 0, none⟩)] 9999 (R / b) (fun i => decide (R < b * (i + 1))) W2.drew (by intros; rfl) (by omega) hk ?_ ?_ ?_)
      · intro t ht
        have : b * (t + 1) ≤ b * (R / b) := Nat.mul_le_mul_left _ ht
        simp; omega
      · intro t ht _
        have : b * (R / b + 1) ≤ b * (t + 1) := Nat.mul_le_mul_left _ (by omega)
        have h2 : R < b * (R / b + 1) := by rw [Nat.mul_add]; have := Nat.mod_lt R hb; omega
        simp; omega
      · intro i W' hi hW'
        have hW2' : Below W2.heap.size W2 W' := below_drewL hW'
        have h := over1_any i b R Fb (w.heap.size + 2) _ _ W' ((hW2'.cell (cell_lt bf3.cell)).trans bf3.cell) ((hW2'.cell (cell_lt br3.cell)).trans br3.cell) (HU.out.below (hBW2.trans (hW2'.mono hBW2.size))) (hr3.below hW2') hbb (by omega)
        simpa using h)
    generalize hkk : R / b = k at *
    have HBK := Lib.hid hbk
    have HMOD := Lib.hid hmod
    have HRB := Lib.hid hRb
    clear hbk hmod hRb hkk
    have hmq := bq3.cell
    have BQ3 := Lib.hid bq3
    have BM3 := Lib.hid bm3
    have BR3 := Lib.hid br3
    have BF3 := Lib.hid bf3
    have AR3 := Lib.hid arr3
    have HR3 := Lib.hid hr3
    clear bq3 bm3 br3 bf3 arr3 hr3
    have hqx : x.1 < qs.length := by rw [hQS.out]; exact hxl
    refine Code.wpIn_mono (Q := Q8 W2 (w.heap.size + 3) x.1 k { tmps := #[.slice A (dg 10000 a).length c, .slice A' (dg 10000 b).length c', undef, .pointer (some ⟨w.heap.size, 0, none⟩), .pointer (some ⟨w.heap.size + 1, 0, none⟩), .pointer (some ⟨w.heap.size + 2, 0, none⟩), .int .i64 (x.1 : Nat), .int .i64 (d : Nat), .pointer (some ⟨Fb, 0, none⟩), .func (.func 243) #[] #[.pointer (some ⟨Fb, 0, none⟩), .pointer (some ⟨w.heap.size + 2, 0, none⟩)], .slice A (dg 10000 a).length c, .int .i64 ((dg 10000 a).length : Nat), .slice (some ⟨w.heap.size + 3, 0, none⟩) (dg 10000 a).length (dg 10000 a).length, .slice A (dg 10000 a).length c, .func (.func 300) #[] #[.pointer (some ⟨w1.heap.size, 0, none⟩)], .int .i64 (x.1 : Nat), .int .i64 (d : Nat), .int .i64 (d : Nat), .slice (some ⟨W.heap.size, 0, none⟩) 1 1, .slice A0 (dg 10000 r).length c0, .slice A1 ((dg 10000 r).length + 1) c1, .slice A2 (dg 10000 R).length c2, .slice A' (dg 10000 b).length c', .func (.func 242) #[.slice A' (dg 10000 b).length c'] #[], .func (.func 243) #[] #[.pointer (some ⟨Fb, 0, none⟩), .pointer (some ⟨w.heap.size + 2, 0, none⟩)], .slice (some ⟨w.heap.size + 3, 0, none⟩) (dg 10000 a).length (dg 10000 a).length, .int .i64 (x.1 : Nat), .func (.func 243) #[] #[.pointer (some ⟨Fb, 0, none⟩), .pointer (some ⟨w.heap.size + 2, 0, none⟩)], .int .i64 (k : Nat), .pointer (some ⟨w.heap.size + 3, x.1, none⟩), undef, undef, undef, undef, undef, undef, undef, undef, undef, undef, undef], defers := [] }) ?_ ?_
    rotate_left
    · gi_region_with_o (refine ⟨trivial, ?_⟩; gi_at_call 244; (with_reducible refine (CallsIn.inRound l (callsIn_wide.2 SE.out)).mono ?_); rintro e w4 ⟨rfl, hb4⟩; have hbl4 := below_drewL hb4; have hmq4 := (hbl4.cell (cell_lt hmq)).trans hmq; have hqc4 := (AR3.out.below hbl4).cell hqx; have hqf4 := (AR3.out.below hbl4).frozen x.1)
      all_goals exact ⟨rfl, _, hbl4, rfl, rfl⟩
    rintro e a' w' ⟨rfl, w4, hbl4, rfl, rfl⟩
    have hzz := hBW2.size
    have hlt3 := AR3.out.lt
    have hFW := BF3.out.lt
    have ar5 := (AR3.out.below hbl4).set hqx (k : Nat)
    have bq5 := Boxed.otherc (boxed_below BQ3.out hbl4) (show w.heap.size + 1 ≠ w.heap.size + 3 by omega) x.1 (.int .i64 (k : Nat))
    have bm5 := Boxed.otherc (boxed_below BM3.out hbl4) (show w.heap.size ≠ w.heap.size + 3 by omega) x.1 (.int .i64 (k : Nat))
    have br5 := Boxed.otherc (boxed_below BR3.out hbl4) (show w.heap.size + 2 ≠ w.heap.size + 3 by omega) x.1 (.int .i64 (k : Nat))
    have bf5 := Boxed.otherc (boxed_below BF3.out hbl4) (show Fb ≠ w.heap.size + 3 by omega) x.1 (.int .i64 (k : Nat))
    have hT5 : Turn [w.heap.size + 2, w.heap.size + 3] W (w4.setCell ⟨w.heap.size + 3, x.1, none⟩ (.int .i64 (k : Nat))) := ((hW2.mono (by simp)).trans (Turn.of_below hbl4)).trans (Turn.setCell _ _ _ _ (by simp))
    have hr5 : Rd (w4.setCell ⟨w.heap.size + 3, x.1, none⟩ (.int .i64 (k : Nat))) (.slice A2 (dg 10000 R).length c2) (dg 10000 R) := by
      refine (Turn.setCell (X := [w.heap.size + 3]) w4 _ _ _ (by simp)).rd (HR3.out.below hbl4) ?_
      intro k hk
      rw [List.mem_singleton] at hk
      subst hk
      unfold rowOf
      split
      · exact fun e => by cases e
      · intro e
        have := HROW.out _ e
        omega
    have hx5 : nth (qs.set x.1 (k : Nat)) x.1 = (k : Nat) := by
      unfold nth; rw [List.getElem?_set_self hqx]; rfl
    have hqx5 : x.1 < (qs.set x.1 ((k : Nat) : Int)).length := by rw [List.length_set]; exact hqx
    have hBW5 : Below w.heap.size w (w4.setCell ⟨w.heap.size + 3, x.1, none⟩ (.int .i64 (k : Nat))) := hT5.below hbW (Nat.le_refl _) (by simp)
    generalize w4.setCell ⟨w.heap.size + 3, x.1, none⟩ (.int .i64 (k : Nat)) = W5 at *
    clear hmq BQ3 BM3 BR3 BF3 AR3 HR3 SE hW2 hBW2 hbl4 hzz hlt3 hFW
    have hq5 := bq5.cell
    have hf5 := bf5.cell
    have hr5c := br5.cell
    have hr5f := br5.frozen
    have hi5 := ar5.cell hqx5
    rw [hx5] at hi5
    have BQ5 := Lib.hid bq5
    have BM5 := Lib.hid bm5
    have BR5 := Lib.hid br5
    have AR5 := Lib.hid ar5
    have HR5 := Lib.hid hr5
    have HT5 := Lib.hid hT5
    clear bq5 bm5 br5 ar5 hr5 hT5 bf5 hx5
    dsimp only
    gi_wp2
    refine Code.wpIn_mono (Q := Q9 W5 (w.heap.size + 2) (R % b)) ?_ ?_
    rotate_left
    · gi_region_with_o (first
        | (refine ⟨trivial, ?_⟩; gi_at_call 242; (with_reducible refine (CallsIn.inRound l (callsIn_wide.2 (by_any b k _ W5.drew (HU.out.below hBW5.drew) hbb hk))).mono ?_); rintro e w5 ⟨v5, rfl, hr6, hb5⟩; have hbl5 := below_drewL hb5; have hr5c1 := (hbl5.cell (cell_lt hr5c)).trans hr5c)
        | (refine ⟨trivial, ?_⟩; gi_at_call 164; (with_reducible refine (CallsIn.inRound l (callsIn_wide.2 (minus_any R (b * k) _ _ w5 (HR5.out.below hbl5) hr6 hRbig HBK.out))).mono ?_); rintro e w6 ⟨v6, rfl, hr7, hb6⟩; rw [HMOD.out] at hr7; obtain ⟨A6, c6, rfl, -⟩ := id hr7; have hbl6 := below_up hbl5 hb6; have hco6 := (boxed_below BR5.out hbl6).cell; have hfo6 := (boxed_below BR5.out hbl6).frozen))
      all_goals exact ⟨rfl, _, _, _, hbl6, hr7, rfl⟩
    rintro e a' w' ⟨rfl, w6, A6, c6, hbl6, hr7, rfl⟩
    refine ⟨(HT5.out.trans (Turn.of_below hbl6)).trans (Turn.setCell _ _ _ _ (by simp)), _, (boxed_below BR5.out hbl6).set _, ?_, (boxed_below BQ5.out hbl6).other (by omega) _, ?_, (boxed_below BM5.out hbl6).other (by omega) _⟩
    · rw [hOs.out]; exact hr7.set_box (boxed_below BR5.out hbl6) _
    · rw [hOs.out]; exact (AR5.out.below hbl6).other (by omega) _ _
  case done =>
    rintro D W hD ⟨vr, hbr, hrr, hbq, harr, hbm⟩ hbW htW hK
    have hinv := (ost_inv hb (down (dg 10000 a).length (dg 10000 a).length))
    have hall := ost_all (a := a) hb
    generalize ost a b (down (dg 10000 a).length (dg 10000 a).length) = st at *
    obtain ⟨r, qs⟩ := st
    simp only at hinv hall hrr harr
    obtain ⟨hq, rfl⟩ := hall
    have hrq : Rd W (.slice (some ⟨w.heap.size + 3, 0, none⟩) (dg 10000 a).length (dg 10000 a).length) qs := harr.rd hinv.2.2 (by omega)
    have TR := Lib.hid (trimmed_any _ qs W.drew (hrq.below (Below.refl _ _).drew) hinv.2.1)
    rw [hq, Int.toNat_natCast] at TR
    have hmixed : Tryz.prog.follows .mixedOrders = true := by kernel_rfl
    have hqc := hbq.cell
    have hqf := hbq.frozen
    have hrc := hbr.cell
    have hrf := hbr.frozen
    have HBQ := Lib.hid hbq
    have HBR := Lib.hid hbr
    have HRR := Lib.hid hrr
    have HK := Lib.hid hK
    obtain ⟨A0, c0, rfl, -, -, -⟩ := hrr
    clear hbq hbr hbm harr hrq hinv hq bq0 bm0 br0 arr0 bl BK
    have hzz := hbW.size
    have fin : ∀ (A1 : Option Addr) (c1 : Nat), Rd W (.slice A1 (dg 10000 (a / b)).length c1) (dg 10000 (a / b)) →
        ∀ W2, W2 = ((W.setCell ⟨w.heap.size + 1, 0, none⟩ (.slice A1 (dg 10000 (a / b)).length c1)).setCell ⟨w.heap.size + 1 + 1, 0, none⟩ (.slice A0 (dg 10000 (a % b)).length c0)).drew →
        W2.heap[D]? = some (.deferred (some [])) ∧ (W2.putObj D (.deferred none)).cell? ⟨w.heap.size + 1, 0, none⟩ = some (.slice A1 (dg 10000 (a / b)).length c1) ∧ (W2.putObj D (.deferred none)).cell? ⟨w.heap.size + 1 + 1, 0, none⟩ = some (.slice A0 (dg 10000 (a % b)).length c0) ∧
        Rd (W2.putObj D (.deferred none)) (.slice A1 (dg 10000 (a / b)).length c1) (dg 10000 (a / b)) ∧ Rd (W2.putObj D (.deferred none)) (.slice A0 (dg 10000 (a % b)).length c0) (dg 10000 (a % b)) ∧ Below w.heap.size w (W2.putObj D (.deferred none)) := by
      intro A1 c1 hr W2 e
      have hK2 : W2.heap[D]? = some (.deferred (some [])) := by rw [e]; exact mark_set (mark_set HK.out _ _) _ _
      have b1 : Boxed W2 (w.heap.size + 1) 213 (.slice A1 (dg 10000 (a / b)).length c1) := by rw [e]; exact (HBQ.out.set _).other (by omega) _
      have b2 : Boxed W2 (w.heap.size + 2) 213 (.slice A0 (dg 10000 (a % b)).length c0) := by rw [e]; exact (HBR.out.other (show w.heap.size + 2 ≠ w.heap.size + 1 by omega) _).set _
      have r1 : ∀ v xs, Rd W v xs → Rd W2 v xs := fun v xs h => by
        rw [e]; exact ((h.set_box HBQ.out _).set_box (HBR.out.other (show w.heap.size + 2 ≠ w.heap.size + 1 by omega) _) _).below (Below.refl _ _).drew
      have hT : Turn [w.heap.size + 1, w.heap.size + 2] W W2 := by rw [e]; exact ((Turn.setCell _ _ _ _ (by simp)).trans (Turn.setCell _ _ _ _ (by simp))).trans ((Turn.of_below (Below.refl _ _).drew))
      exact ⟨hK2, cell_mark hK2 b1.cell, cell_mark hK2 b2.cell, rd_mark hK2 (r1 _ _ hr), rd_mark hK2 (r1 _ _ HRR.out), below_mark (hT.below hbW (Nat.le_refl _) (by simp)) (Nat.le_refl _) (by omega)⟩
    have FIN := Lib.hid fin
    clear fin
    gi_wp2
    gi_region_with_o (refine ⟨trivial, ?_⟩; gi_at_call 241; (with_reducible refine (callsIn_wide.2 TR.out).mono ?_); rintro e w2 ⟨v1, rfl, hr1, rfl⟩; obtain ⟨A1, c1, rfl, -⟩ := id hr1)
    all_goals obtain ⟨f1, f2, f3, f4, f5, f6⟩ := FIN.out A1 c1 hr1 _ rfl
    all_goals have F1 := Lib.hid f1
    all_goals have F4 := Lib.hid f4
    all_goals have F5 := Lib.hid f5
    all_goals have F6 := Lib.hid f6
    all_goals clear f1 f4 f5 f6
    all_goals gi_wp2
    all_goals refine ⟨by simp, .inl ⟨_, _, rfl, run_takeDeferred F1.out, ?_⟩⟩
    all_goals exact ⟨.tuple #[_, _], by simp [results, Tryz.results161, go_sem, f2, f3], _, _, rfl, F4.out, F5.out, F6.out⟩
  case stop =>
    rintro D cd pre W hD hSp h hbW hK
    exact h.elim

end Go.Proofs.YtffndcjmabjhiaaGreatDoor
