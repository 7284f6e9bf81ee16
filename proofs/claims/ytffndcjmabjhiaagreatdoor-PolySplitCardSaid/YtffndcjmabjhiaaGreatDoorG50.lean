/- Contracts for the laws on roots: numbers in thirds, Count and Isolate of small polynomials. Conditions: the tables of strconv. -/
import Derived.Test.YtffndcjmabjhiaaGreatDoorM15
import Derived.Test.YtffndcjmabjhiaaGreatDoorM9
import Derived.Test.YtffndcjmabjhiaaGreatDoorM24
namespace Go.Proofs.YtffndcjmabjhiaaGreatDoor
open Go.RowKit Num
open Go.Shelf

set_option maxRecDepth 100000 in
theorem lpick_det (c n : Int) (hc : -9223372036854775808 ≤ c ∧ c ≤ 9223372036854775807) (hn : 0 < n) (hn1 : n ≤ 9223372036854775807) : ∃ z : Int, 0 ≤ z ∧ z < n ∧
    ∀ w : World, Calls Tryz.prog 13 #[.int .i64 c, .int .i64 n] w (RetI w z) := by
  obtain ⟨hc0, hc1⟩ := hc
  by_cases h : c < 0
  · refine ⟨-((c + 1).tmod n), by rw [← Int.neg_tmod, Int.tmod_eq_emod_of_nonneg (by omega)]; exact Int.emod_nonneg _ (by omega), by rw [← Int.neg_tmod, Int.tmod_eq_emod_of_nonneg (by omega)]; exact Int.emod_lt_of_pos _ hn, fun w => ?_⟩
    go_enter Tryz.func13, Tryz.ntmps13
    go_wp2
    go_ret
    exact ⟨rfl, Below.refl _ _⟩
  · have h' : 0 ≤ c := by omega
    refine ⟨c % n, Int.emod_nonneg _ (by omega), Int.emod_lt_of_pos _ hn, fun w => ?_⟩
    go_enter Tryz.func13, Tryz.ntmps13
    go_wp2
    go_ret
    exact ⟨rfl, Below.refl _ _⟩

/-- q is n thirds. -/
def Q3 (n : Int) (q : Rat) : Prop := q = Rat.divInt n 3
theorem Q3.eq {n : Int} {q : Rat} (h : Q3 n q) : q * 3 = (n : Rat) := by
  have e : q = (n : Rat) / ((3 : Int) : Rat) := by
    have := h
    unfold Q3 at this
    rw [this, Rat.divInt_eq_div]
  rw [e, show ((3 : Int) : Rat) = 3 from rfl]; grind
theorem Q3.ab {n : Int} {q : Rat} (h : Q3 n q) (h1 : -60 ≤ n) (h2 : n ≤ 60) : Ab ((20 : Nat) : Rat) q := by
  have e := h.eq
  have a : ((-60 : Int) : Rat) ≤ (n : Rat) := Rat.intCast_le_intCast.2 h1
  have b : (n : Rat) ≤ ((60 : Int) : Rat) := Rat.intCast_le_intCast.2 h2
  rw [show ((-60 : Int) : Rat) = -60 from rfl] at a
  rw [show ((60 : Int) : Rat) = 60 from rfl] at b
  rw [show ((20 : Nat) : Rat) = 20 from rfl]
  exact ⟨by grind, by grind⟩
theorem Q3.gd {n : Int} {q : Rat} (h : Q3 n q) (m : Nat) : Gd 3 m q :=
  Gd.ups (n := 0) ⟨n, by rw [show ((3 * 2 ^ 0 : Nat) : Rat) = 3 from rfl]; exact h.eq⟩ (Nat.zero_le m)
theorem Q3.le {n m : Int} {a b : Rat} (h : Q3 n a) (k : Q3 m b) (hnm : n ≤ m) : a ≤ b := by
  have c : (n : Rat) ≤ (m : Rat) := Rat.intCast_le_intCast.2 hnm
  have := h.eq
  have := k.eq
  grind
theorem Q3.wide {n m : Int} {a b : Rat} (h : Q3 n a) (k : Q3 m b) (hnm : m - n ≤ 39) : b - a ≤ 13 := by
  have c : (m : Rat) ≤ ((n + 39 : Int) : Rat) := Rat.intCast_le_intCast.2 (by omega)
  rw [Rat.intCast_add, show ((39 : Int) : Rat) = 39 from rfl] at c
  have := h.eq
  have := k.eq
  grind
theorem of3_any (n : Int) (h1 : -1000 ≤ n) (h2 : n ≤ 1000) : ∃ q, Q3 n q ∧ ∀ w : World, Calls Tryz.prog 14 #[.int .i64 n, .int .i64 3] w (RetR w q) :=
  ⟨_, rfl, fun w => of_any n 3 (by omega) (by omega) (by decide) (by decide) (by decide) w⟩

theorem most_ge : ∀ k : Fin 6, 1 / 1000000 ≤ mostO k.1 := by decide +kernel
theorem most_mono : ∀ k k2 : Fin 6, k.1 ≤ k2.1 → mostO k2.1 ≤ mostO k.1 := by decide +kernel
theorem most_nn : ∀ k : Fin 6, 0 ≤ mostO k.1 := by decide +kernel
theorem var_len (ls : List (List Rat)) (x : Rat) : varL ls x ≤ ls.length := (seen_bd ls x ls.length (Nat.le_refl _)).1
/-- Count of a small polynomial. -/
def CountC (p : List Rat) (ls : List (List Rat)) (a b : Rat) : Prop := ∀ (w : World) (v : Value), Pv w v p → Laid w → Calls Tryz.prog 15 #[v, .agg #[.string (numT (some a)), .string (denT (some a))], .agg #[.string (numT (some b)), .string (denT (some b))]] w (fun e w' => e = .returned (.tuple #[.int .i64 ((varL ls a : Int) - (varL ls b : Int)), .int .i64 0]) ∧ Below w.heap.size w w')
def IsoC (p : List Rat) (a b : Rat) (k : Nat) (new : List (Rat × Rat)) : Prop := ∀ (w : World) (v : Value), Pv w v p → Laid w → Calls Tryz.prog 16 #[v, .agg #[.string (numT (some a)), .string (denT (some a))], .agg #[.string (numT (some b)), .string (denT (some b))], .int .i64 k] w (RetIvE w new)
theorem count_in {p d g s : List Rat} {ls : List (List Rat)} {T : Nat} {e : Rat} (H : InS p d g s ls T e) (hp : Vp p) (h0 : p ≠ []) {a b : Rat} (ha : Ab ((20 : Nat) : Rat) a) (hb : Ab ((20 : Nat) : Rat) b) (ga : Gd 3 T a) (gb : Gd 3 T b) (hab : a ≤ b) : CountC p ls a b := fun w _ hv hL =>
  api_count w hv hp (List.length_pos_iff.2 h0) (H.pe a ha ga) (H.pe b hb gb) hab H.hst hL
theorem iso_in {p d g s : List Rat} {ls : List (List Rat)} {T : Nat} {e : Rat} (H : InS p d g s ls T e) (hp : Vp p) (h0 : p ≠ []) {a b : Rat} {na nb : Int} (qa : Q3 na a) (qb : Q3 nb b) (h1 : -60 ≤ na) (h2 : na ≤ nb) (h3 : nb ≤ 60) (hw : nb - na ≤ 39) {k : Nat} (hk : k ≤ 5) :
    ∃ new, examO ls (mostO k) (okT T) T a b = some new ∧ Inv s ls (mostO k) a b new ∧ (∀ i ∈ new, (Gd 3 T i.1 ∧ Ab ((20 : Nat) : Rat) i.1) ∧ (Gd 3 T i.2 ∧ Ab ((20 : Nat) : Rat) i.2)) ∧ new.length ≤ 14 ∧ IsoC p a b k new := by
  have ha := qa.ab h1 (by omega)
  have hb := qb.ab (by omega) h3
  have hab := qa.le qb h2
  have hm := most_ge ⟨k, by omega⟩
  have hB := H.bis (mostO k) (Rat.le_trans H.es hm)
  have hT := H.T1
  obtain ⟨new, hnew⟩ := hB.some (T - 1) a b (by omega) ha hb hab (qa.gd _) (qb.gd _) (by have := H.wide; have := qa.wide qb hw; grind)
  rw [show T - 1 + 1 = T by omega] at hnew
  have inv := exam_inv H.st (most_nn ⟨k, by omega⟩) T a b new hab hnew
  have ends := exam_ends (P := fun x => Gd 3 T x ∧ Ab ((20 : Nat) : Rat) x) (fun x hx => okT_iff.1 hx) T a b new ⟨qa.gd T, ha⟩ ⟨qb.gd T, hb⟩ hnew
  have hl : new.length ≤ 14 := by
    have h4 := inv.len
    have h5 := var_len ls a
    have h6 := (sturm_len H.hst).2
    omega
  exact ⟨new, hnew, inv, ends, hl, fun w _ hv hL => api_isolate w hv hp (List.length_pos_iff.2 h0) (H.pe a ha (qa.gd T)) (H.pe b hb (qb.gd T)) hab H.hst (by omega) (okT T) (fun x hx => H.pe x (okT_iff.1 hx).2 (okT_iff.1 hx).1) hnew (by omega) hL⟩

/-- All that PolySplit needs of its polynomial. -/
structure SplitC (p : List Rat) (a m b : Rat) (k k2 : Nat) (v1 v2 v3 : Int) (l1 l2 : List (Rat × Rat)) : Prop where
  c1 : ∀ (w : World) (v : Value), Pv w v p → Laid w → Calls Tryz.prog 15 #[v, .agg #[.string (numT (some a)), .string (denT (some a))], .agg #[.string (numT (some m)), .string (denT (some m))]] w (fun e w' => e = .returned (.tuple #[.int .i64 v1, .int .i64 0]) ∧ Below w.heap.size w w')
  c2 : ∀ (w : World) (v : Value), Pv w v p → Laid w → Calls Tryz.prog 15 #[v, .agg #[.string (numT (some m)), .string (denT (some m))], .agg #[.string (numT (some b)), .string (denT (some b))]] w (fun e w' => e = .returned (.tuple #[.int .i64 v2, .int .i64 0]) ∧ Below w.heap.size w w')
  c3 : ∀ (w : World) (v : Value), Pv w v p → Laid w → Calls Tryz.prog 15 #[v, .agg #[.string (numT (some a)), .string (denT (some a))], .agg #[.string (numT (some b)), .string (denT (some b))]] w (fun e w' => e = .returned (.tuple #[.int .i64 v3, .int .i64 0]) ∧ Below w.heap.size w w')
  i1 : IsoC p a b k l1
  i2 : IsoC p a b k2 l2
  sum : v1 + v2 = v3
  p1 : 0 ≤ v1
  p2 : 0 ≤ v2
  n1 : (l1.length : Int) = v3
  n2 : (l2.length : Int) = v3
  le : v3 ≤ 14
  nest : Nest l1 l2
  fit : ∀ i, (i ∈ l1 ∨ i ∈ l2) → fitQ i.1 ∧ fitQ i.2
theorem split_con {p : List Rat} (hp : In p) (h0 : p ≠ []) {a m b : Rat} {na nm nb : Int} (qa : Q3 na a) (qm : Q3 nm m) (qb : Q3 nb b) (h1 : -60 ≤ na) (h2 : na ≤ nm) (h3 : nm ≤ nb) (h4 : nb ≤ 60) (hw : nb - na ≤ 39) {k k2 : Nat} (hk : k ≤ k2) (hk2 : k2 ≤ 5) : ∃ v1 v2 v3 l1 l2, SplitC p a m b k k2 v1 v2 v3 l1 l2 := by
  have hV : Vp p := Ok.vp hp (by decide) (by decide) (by decide) (by decide)
  obtain ⟨d, g, s, ls, T, e, H⟩ := in_law hp h0
  obtain ⟨l1, e1, inv1, en1, len1, i1⟩ := iso_in H hV h0 qa qb h1 (by omega) h4 hw (k := k) (by omega)
  obtain ⟨l2, e2, inv2, en2, len2, i2⟩ := iso_in H hV h0 qa qb h1 (by omega) h4 hw (k := k2) hk2
  have ha := qa.ab h1 (by omega)
  have hm := qm.ab (by omega) (by omega)
  have hb := qb.ab (by omega) h4
  have hX : (0 : Rat) ≤ ((20 : Nat) : Rat) := Rat.natCast_nonneg
  have m1 := H.st.mono hX ha hm (qa.le qm h2)
  have m2 := H.st.mono hX hm hb (qm.le qb h3)
  have n1 := inv1.len
  have n2 := inv2.len
  refine ⟨_, _, _, l1, l2, count_in H hV h0 ha hm (qa.gd T) (qm.gd T) (qa.le qm h2), count_in H hV h0 hm hb (qm.gd T) (qb.gd T) (qm.le qb h3), count_in H hV h0 ha hb (qa.gd T) (qb.gd T) (qa.le qb (by omega)), i1, i2, by omega, by omega, by omega, by omega, by omega, by omega, ?_, ?_⟩
  · exact exam_nest hX H.st (most_nn ⟨k2, by omega⟩) (most_mono ⟨k, by omega⟩ ⟨k2, by omega⟩ hk) T T a b l1 l2 ha hb (qa.le qb (by omega)) e1 e2
  · intro i hi
    rcases hi with hi | hi
    · obtain ⟨⟨g1, a1⟩, g2, a2⟩ := en1 i hi; exact ⟨(H.pe _ a1 g1).1, (H.pe _ a2 g2).1⟩
    · obtain ⟨⟨g1, a1⟩, g2, a2⟩ := en2 i hi; exact ⟨(H.pe _ a1 g1).1, (H.pe _ a2 g2).1⟩

end Go.Proofs.YtffndcjmabjhiaaGreatDoor
