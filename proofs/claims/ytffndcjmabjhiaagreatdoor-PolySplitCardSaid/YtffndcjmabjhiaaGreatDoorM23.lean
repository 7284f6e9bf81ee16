/- Bounds of the values of polynomials and of their differences, on numbers of a bounded size. Plain. Sturm chains: near a place where the first polynomial of a chain is not small, the variations of the rest stay as they are. Plain. Sturm's theorem, without real numbers: at near places the variations differ exactly where the sign of the first polynomial changes. Plain. Series of fractions as a commutative ring; what is divided by the greatest common divisor with its derivative has no repeated factor. Plain. Pseudo-division of polynomials with integer coefficients: two of them without a common divisor are not both small at one place. Plain. In a short interval a polynomial that is not small together with its derivative has at most one root: the variations differ by one at most. Plain. -/
import Derived.Test.YtffndcjmabjhiaaGreatDoorM22
import Derived.Test.YtffndcjmabjhiaaGreatDoorM10
namespace Go.Proofs.YtffndcjmabjhiaaGreatDoor
open Num

theorem one_cast : ((1 : Int) : Rat) = 1 := rfl
theorem mone_cast : ((-1 : Int) : Rat) = -1 := rfl
/-- x lies between -B and B. -/
def Ab (B x : Rat) : Prop := -B ≤ x ∧ x ≤ B
theorem Ab.nn {B x : Rat} (h : Ab B x) : 0 ≤ B := by obtain ⟨h1, h2⟩ := h; grind
theorem Ab.mono {B C x : Rat} (h : Ab B x) (k : B ≤ C) : Ab C x := by obtain ⟨h1, h2⟩ := h; exact ⟨by grind, by grind⟩
theorem Ab.add {B C x y : Rat} (h : Ab B x) (k : Ab C y) : Ab (B + C) (x + y) := by
  obtain ⟨h1, h2⟩ := h; obtain ⟨k1, k2⟩ := k; exact ⟨by grind, by grind⟩
theorem Ab.sub {B C x y : Rat} (h : Ab B x) (k : Ab C y) : Ab (B + C) (x - y) := by
  obtain ⟨h1, h2⟩ := h; obtain ⟨k1, k2⟩ := k; exact ⟨by grind, by grind⟩
theorem Ab.neg {B x : Rat} (h : Ab B x) : Ab B (-x) := by obtain ⟨h1, h2⟩ := h; exact ⟨by grind, by grind⟩
theorem Ab.mul {B C x y : Rat} (h : Ab B x) (k : Ab C y) : Ab (B * C) (x * y) := by
  obtain ⟨h1, h2⟩ := h; obtain ⟨k1, k2⟩ := k
  have a1 : 0 ≤ (B - x) * (C - y) := Rat.mul_nonneg (by grind) (by grind)
  have a2 : 0 ≤ (B - x) * (C + y) := Rat.mul_nonneg (by grind) (by grind)
  have a3 : 0 ≤ (B + x) * (C - y) := Rat.mul_nonneg (by grind) (by grind)
  have a4 : 0 ≤ (B + x) * (C + y) := Rat.mul_nonneg (by grind) (by grind)
  exact ⟨by grind, by grind⟩
theorem Ab.zero {B : Rat} (h : 0 ≤ B) : Ab B 0 := ⟨by grind, h⟩
theorem Ab.self (x : Rat) : Ab (max x (-x)) x := by
  by_cases c : x ≤ -x
  · rw [show max x (-x) = -x from by grind]; exact ⟨by grind, c⟩
  · rw [show max x (-x) = x from by grind]; exact ⟨by grind, by grind⟩

/-- Bounds of values, of the values of what the division by x - v leaves, and of what two such divisions leave. -/
def nrm (X : Rat) : List Rat → Rat
  | [] => 0
  | a :: l => nrm X l * X + max a (-a)
def nrm1 (X : Rat) : List Rat → Rat
  | [] => 0
  | _ :: l => nrm1 X l * X + nrm X l
def nrm2 (X : Rat) : List Rat → Rat
  | [] => 0
  | _ :: l => nrm2 X l * X + nrm1 X l
theorem nrm_ev {X x : Rat} (hx : Ab X x) : ∀ l : List Rat, Ab (nrm X l) (evP l x)
  | [] => Ab.zero Rat.le_refl
  | a :: l => ((nrm_ev hx l).mul hx).add (Ab.self a)
theorem nrm1_ev {X x y : Rat} (hx : Ab X x) (hy : Ab X y) : ∀ l : List Rat, Ab (nrm1 X l) (evP (syn x l) y)
  | [] => Ab.zero Rat.le_refl
  | _ :: l => ((nrm1_ev hx hy l).mul hy).add (nrm_ev hx l)
theorem nrm2_ev {X x y z : Rat} (hx : Ab X x) (hy : Ab X y) (hz : Ab X z) : ∀ l : List Rat, Ab (nrm2 X l) (evP (syn y (syn x l)) z)
  | [] => Ab.zero Rat.le_refl
  | _ :: l => ((nrm2_ev hx hy hz l).mul hz).add (nrm1_ev hx hy l)
theorem nrm_nn {X : Rat} (hX : 0 ≤ X) (l : List Rat) : 0 ≤ nrm X l := (nrm_ev (x := 0) (Ab.zero hX) l).nn
theorem nrm1_nn {X : Rat} (hX : 0 ≤ X) (l : List Rat) : 0 ≤ nrm1 X l := (nrm1_ev (x := 0) (y := 0) (Ab.zero hX) (Ab.zero hX) l).nn
theorem nrm2_nn {X : Rat} (hX : 0 ≤ X) (l : List Rat) : 0 ≤ nrm2 X l := (nrm2_ev (x := 0) (y := 0) (z := 0) (Ab.zero hX) (Ab.zero hX) (Ab.zero hX) l).nn
/-- Values at near places are near. -/
theorem ev_near {X d x y : Rat} (hx : Ab X x) (hy : Ab X y) (hd : Ab d (y - x)) (l : List Rat) : Ab (nrm1 X l * d) (evP l y - evP l x) := by
  have h := (nrm1_ev hx hy l).mul hd
  rw [syn_at x y l]
  have e : evP (syn x l) y * (y - x) + evP l x - evP l x = evP (syn x l) y * (y - x) := by grind
  rw [e]; exact h
/-- The slope between two near places is near the derivative. -/
theorem ev_slope {X d x y : Rat} (hx : Ab X x) (hy : Ab X y) (hd : Ab d (y - x)) {l k : List Rat} (hk : ∀ i, cf k i = dcf (cf l) i) :
    ∃ g, evP l y - evP l x = g * (y - x) ∧ Ab (nrm2 X l * d) (g - evP k x) := by
  refine ⟨evP (syn x l) y, by rw [syn_at x y l]; grind, ?_⟩
  have h := (nrm2_ev hx hx hy l).mul hd
  rw [deriv_ev hk, syn_at x y (syn x l)]
  have e : evP (syn x (syn x l)) y * (y - x) + evP (syn x l) x - evP (syn x l) x = evP (syn x (syn x l)) y * (y - x) := by grind
  rw [e]; exact h

/-- Bounds that follow from a bound of the coefficients. -/
def nB (X B : Rat) : Nat → Rat
  | 0 => 0
  | n + 1 => nB X B n * X + B
def nB1 (X B : Rat) : Nat → Rat
  | 0 => 0
  | n + 1 => nB1 X B n * X + nB X B n
def nB2 (X B : Rat) : Nat → Rat
  | 0 => 0
  | n + 1 => nB2 X B n * X + nB1 X B n
theorem nB_nn {X B : Rat} (hX : 0 ≤ X) (hB : 0 ≤ B) : ∀ n, 0 ≤ nB X B n
  | 0 => by show (0 : Rat) ≤ 0; decide
  | n + 1 => by have := Rat.mul_nonneg (nB_nn hX hB n) hX; show 0 ≤ nB X B n * X + B; grind
theorem nB1_nn {X B : Rat} (hX : 0 ≤ X) (hB : 0 ≤ B) : ∀ n, 0 ≤ nB1 X B n
  | 0 => by show (0 : Rat) ≤ 0; decide
  | n + 1 => by
    have := Rat.mul_nonneg (nB1_nn hX hB n) hX
    have := nB_nn hX hB n
    show 0 ≤ nB1 X B n * X + nB X B n; grind
theorem nB2_nn {X B : Rat} (hX : 0 ≤ X) (hB : 0 ≤ B) : ∀ n, 0 ≤ nB2 X B n
  | 0 => by show (0 : Rat) ≤ 0; decide
  | n + 1 => by
    have := Rat.mul_nonneg (nB2_nn hX hB n) hX
    have := nB1_nn hX hB n
    show 0 ≤ nB2 X B n * X + nB1 X B n; grind
theorem mul_up {a b c : Rat} (h : a ≤ b) (hc : 0 ≤ c) : a * c ≤ b * c := by
  have : 0 ≤ (b - a) * c := Rat.mul_nonneg (by grind) hc
  grind
theorem nrm_le {X B : Rat} (hX : 0 ≤ X) (hB : 0 ≤ B) : ∀ (n : Nat) (l : List Rat), l.length ≤ n → (∀ a ∈ l, Ab B a) → nrm X l ≤ nB X B n
  | n, [], _, _ => nB_nn hX hB n
  | n + 1, a :: l, h, k => by
    have i := nrm_le hX hB n l (by simpa using h) fun b hb => k b (List.mem_cons_of_mem _ hb)
    have j := k a (List.mem_cons_self ..)
    have := mul_up i hX
    have h3 : max a (-a) ≤ B := by obtain ⟨j1, j2⟩ := j; grind
    show nrm X l * X + max a (-a) ≤ nB X B n * X + B
    grind
theorem nrm1_le {X B : Rat} (hX : 0 ≤ X) (hB : 0 ≤ B) : ∀ (n : Nat) (l : List Rat), l.length ≤ n → (∀ a ∈ l, Ab B a) → nrm1 X l ≤ nB1 X B n
  | n, [], _, _ => nB1_nn hX hB n
  | n + 1, a :: l, h, k => by
    have hl : l.length ≤ n := by simpa using h
    have kl : ∀ b ∈ l, Ab B b := fun b hb => k b (List.mem_cons_of_mem _ hb)
    have := mul_up (nrm1_le hX hB n l hl kl) hX
    have := nrm_le hX hB n l hl kl
    show nrm1 X l * X + nrm X l ≤ nB1 X B n * X + nB X B n
    grind
theorem nrm2_le {X B : Rat} (hX : 0 ≤ X) (hB : 0 ≤ B) : ∀ (n : Nat) (l : List Rat), l.length ≤ n → (∀ a ∈ l, Ab B a) → nrm2 X l ≤ nB2 X B n
  | n, [], _, _ => nB2_nn hX hB n
  | n + 1, a :: l, h, k => by
    have hl : l.length ≤ n := by simpa using h
    have kl : ∀ b ∈ l, Ab B b := fun b hb => k b (List.mem_cons_of_mem _ hb)
    have := mul_up (nrm2_le hX hB n l hl kl) hX
    have := nrm1_le hX hB n l hl kl
    show nrm2 X l * X + nrm1 X l ≤ nB2 X B n * X + nB1 X B n
    grind

end Go.Proofs.YtffndcjmabjhiaaGreatDoor

namespace Go.Proofs.YtffndcjmabjhiaaGreatDoor
open Num

theorem sg_pos {x : Rat} (h : 0 < x) : sgnQ x = 1 := by unfold sgnQ; rw [cmpO_some, if_neg (by grind), if_pos h]
theorem sg_neg {x : Rat} (h : x < 0) : sgnQ x = -1 := by unfold sgnQ; rw [cmpO_some, if_pos h]
theorem sg_zero {x : Rat} (h : x = 0) : sgnQ x = 0 := by unfold sgnQ; rw [cmpO_some, if_neg (by grind), if_neg (by grind)]
theorem sg_of {s : Int} {x : Rat} (hs : s = 1 ∨ s = -1) (h : 0 < (s : Rat) * x) : sgnQ x = s := by
  rcases hs with rfl | rfl
  · exact sg_pos (by have e : (((1 : Int) : Rat)) = 1 := rfl; rw [e] at h; grind)
  · exact sg_neg (by have e : (((-1 : Int) : Rat)) = -1 := rfl; rw [e] at h; grind)

/-- How often the sign changes behind a sign s. -/
def wr (s : Int) : List (List Rat) → Rat → Nat
  | [], _ => 0
  | f :: t, x => (if sgnQ (evP f x) * s < 0 then 1 else 0) + wr (if sgnQ (evP f x) = 0 then s else sgnQ (evP f x)) t x
theorem fold_wr (x : Rat) : ∀ (ls : List (List Rat)) (s : Int) (n : Nat), ((signs ls x).foldl vstep (s, n)).2 = n + wr s ls x
  | [], _, _ => rfl
  | f :: t, s, n => by
    show ((signs t x).foldl vstep (vstep (s, n) (sgnQ (evP f x)))).2 = n + ((if sgnQ (evP f x) * s < 0 then 1 else 0) + wr (if sgnQ (evP f x) = 0 then s else sgnQ (evP f x)) t x)
    have h := fold_wr x t (vstep (s, n) (sgnQ (evP f x))).1 (vstep (s, n) (sgnQ (evP f x))).2
    rw [show ((vstep (s, n) (sgnQ (evP f x))).1, (vstep (s, n) (sgnQ (evP f x))).2) = vstep (s, n) (sgnQ (evP f x)) from rfl] at h
    rw [h]
    unfold vstep
    dsimp
    split <;> omega
theorem varL_wr (ls : List (List Rat)) (x : Rat) : varL ls x = wr 0 ls x := by
  unfold varL seen
  have e : (signs ls x).take ls.length = signs ls x := List.take_of_length_le (by unfold signs; simp)
  rw [e, fold_wr]; omega
theorem wr_zero {s : Int} {f : List Rat} {t : List (List Rat)} {x : Rat} (h : sgnQ (evP f x) = 0) : wr s (f :: t) x = wr s t x := by
  show (if sgnQ (evP f x) * s < 0 then 1 else 0) + wr (if sgnQ (evP f x) = 0 then s else sgnQ (evP f x)) t x = _
  rw [h, if_pos rfl, if_neg (by omega)]; omega
theorem wr_same {s : Int} {f : List Rat} {t : List (List Rat)} {x : Rat} (hs : s = 1 ∨ s = -1) (h : sgnQ (evP f x) = s) : wr s (f :: t) x = wr s t x := by
  show (if sgnQ (evP f x) * s < 0 then 1 else 0) + wr (if sgnQ (evP f x) = 0 then s else sgnQ (evP f x)) t x = _
  rw [h]
  rcases hs with rfl | rfl
  · rw [if_neg (by decide), if_neg (by decide)]; omega
  · rw [if_neg (by decide), if_neg (by decide)]; omega
theorem wr_other {s : Int} {f : List Rat} {t : List (List Rat)} {x : Rat} (hs : s = 1 ∨ s = -1) (h : sgnQ (evP f x) = -s) : wr s (f :: t) x = 1 + wr (-s) t x := by
  show (if sgnQ (evP f x) * s < 0 then 1 else 0) + wr (if sgnQ (evP f x) = 0 then s else sgnQ (evP f x)) t x = _
  rw [h]
  rcases hs with rfl | rfl
  · rw [if_pos (by decide), if_neg (by decide)]
  · rw [if_pos (by decide), if_neg (by decide)]
theorem wr_first {s : Int} {f : List Rat} {t : List (List Rat)} {x : Rat} (hs : s = 1 ∨ s = -1) (h : sgnQ (evP f x) = s) : wr 0 (f :: t) x = wr s t x := by
  show (if sgnQ (evP f x) * 0 < 0 then 1 else 0) + wr (if sgnQ (evP f x) = 0 then 0 else sgnQ (evP f x)) t x = _
  rw [h, if_neg (by omega), if_neg (by rcases hs with rfl | rfl <;> decide)]; omega
theorem wr_congr {s : Int} {f : List Rat} {t : List (List Rat)} {x y : Rat} (h : sgnQ (evP f x) = sgnQ (evP f y)) (k : wr (if sgnQ (evP f y) = 0 then s else sgnQ (evP f y)) t x = wr (if sgnQ (evP f y) = 0 then s else sgnQ (evP f y)) t y) : wr s (f :: t) x = wr s (f :: t) y := by
  show (if sgnQ (evP f x) * s < 0 then 1 else 0) + wr (if sgnQ (evP f x) = 0 then s else sgnQ (evP f x)) t x = (if sgnQ (evP f y) * s < 0 then 1 else 0) + wr (if sgnQ (evP f y) = 0 then s else sgnQ (evP f y)) t y
  rw [h, k]
/-- Between two opposite signs there is one change, whatever stands there. -/
theorem wr_mid {s : Int} {g h : List Rat} {r : List (List Rat)} {x : Rat} (hs : s = 1 ∨ s = -1) (hh : sgnQ (evP h x) = -s) : wr s (g :: h :: r) x = 1 + wr (-s) r x := by
  have hs' : -s = 1 ∨ -s = -1 := by rcases hs with rfl | rfl <;> simp
  rcases sgn_mem (evP g x) with c | c | c
  · by_cases e : s = -1
    · rw [wr_same hs (by rw [c, e]), wr_other hs hh]
    · rw [wr_other hs (by rw [c]; rcases hs with rfl | rfl <;> first | rfl | exact absurd rfl e), wr_same hs' hh]
  · rw [wr_zero c, wr_other hs hh]
  · by_cases e : s = 1
    · rw [wr_same hs (by rw [c, e]), wr_other hs hh]
    · rw [wr_other hs (by rw [c]; rcases hs with rfl | rfl <;> first | rfl | exact absurd rfl e), wr_same hs' hh]

/-- A chain: each polynomial is a multiple of the next one, less a positive multiple of the one behind that; the last one is a constant that is not zero. -/
def StC : List (List Rat) → Prop
  | [] => False
  | [f] => ∃ c : Rat, c ≠ 0 ∧ ∀ x, evP f x = c
  | [_, g] => ∃ c : Rat, c ≠ 0 ∧ ∀ x, evP g x = c
  | f :: g :: h :: t => (∃ (q : List Rat) (k : Rat), 0 < k ∧ ∀ x, evP f x = evP q x * evP g x - k * evP h x) ∧ StC (g :: h :: t)
theorem StC.tail : ∀ {f g : List Rat} {t : List (List Rat)}, StC (f :: g :: t) → StC (g :: t)
  | _, _, [], h => h
  | _, _, _ :: _, h => h.2

theorem pos_min {a b : Rat} (ha : 0 < a) (hb : 0 < b) : ∃ d : Rat, 0 < d ∧ d ≤ a ∧ d ≤ b := by
  by_cases h : a ≤ b
  · exact ⟨a, ha, by grind, h⟩
  · exact ⟨b, hb, by grind, by grind⟩
theorem small_mul {L e : Rat} (hL : 0 ≤ L) (he : 0 < e) : ∃ d0 : Rat, 0 < d0 ∧ ∀ d, 0 ≤ d → d ≤ d0 → L * d ≤ e := by
  have h1 : 0 < L + 1 := by grind
  have h2 : 0 < (L + 1)⁻¹ := Rat.inv_pos.2 h1
  have h3 : (L + 1) * (L + 1)⁻¹ = 1 := Rat.mul_inv_cancel _ (by grind)
  refine ⟨e * (L + 1)⁻¹, Rat.mul_pos he h2, fun d hd hd0 => ?_⟩
  have h4 : 0 ≤ (L + 1) * (e * (L + 1)⁻¹ - d) := Rat.mul_nonneg (by grind) (by grind)
  have h5 : (L + 1) * (e * (L + 1)⁻¹ - d) = e * ((L + 1) * (L + 1)⁻¹) - (L * d + d) := by grind
  rw [h5, h3] at h4
  grind
theorem le_cancel {k a b : Rat} (hk : 0 < k) (h : k * a ≤ k * b) : a ≤ b := by
  apply Classical.byContradiction
  intro c
  have : 0 < k * (a - b) := Rat.mul_pos hk (by grind)
  grind
theorem near_sign {X d e x y : Rat} {s : Int} {l : List Rat} (hs : s = 1 ∨ s = -1) (hx : Ab X x) (hy : Ab X y) (hd : Ab d (y - x)) (hL : nrm1 X l * d ≤ e / 2) (h : e ≤ (s : Rat) * evP l x) : e / 2 ≤ (s : Rat) * evP l y := by
  obtain ⟨h1, h2⟩ := ev_near hx hy hd l
  rcases hs with rfl | rfl
  · rw [one_cast] at h ⊢; grind
  · rw [mone_cast] at h ⊢; grind
theorem sgn_case {e x : Rat} (_he : 0 < e) : (∃ s : Int, (s = 1 ∨ s = -1) ∧ e ≤ (s : Rat) * x) ∨ Ab e x := by
  by_cases h1 : e ≤ x
  · exact .inl ⟨1, .inl rfl, by rw [one_cast]; grind⟩
  · by_cases h2 : e ≤ -x
    · exact .inl ⟨-1, .inr rfl, by rw [mone_cast]; grind⟩
    · exact .inr ⟨by grind, by grind⟩

theorem tail_const {X : Rat} (hX : 0 ≤ X) : ∀ (t : List (List Rat)) (f : List Rat), StC (f :: t) → ∀ e : Rat, 0 < e → ∃ d : Rat, 0 < d ∧ ∀ (s : Int) (x y : Rat), (s = 1 ∨ s = -1) → Ab X x → Ab X y → Ab d (y - x) → e ≤ (s : Rat) * evP f x → wr s t x = wr s t y
  | [], _, _, _, _ => ⟨1, by decide, fun _ _ _ _ _ _ _ _ => rfl⟩
  | [g], _, h, _, _ => ⟨1, by decide, fun s x y _ _ _ _ _ => by
      obtain ⟨c, _, hc⟩ := h
      refine wr_congr (by rw [hc, hc]) rfl⟩
  | g :: h :: r, f, hS, e, he => by
    obtain ⟨⟨q, k, hk, hf⟩, hT⟩ := hS
    have hQ := nrm_nn hX q
    have he2 : 0 < e / 2 := by grind
    obtain ⟨e1, he1, hq1⟩ := small_mul hQ he2
    have hq := hq1 e1 (by grind) (by grind)
    have hki : 0 < k⁻¹ := Rat.inv_pos.2 hk
    have hkk : k * k⁻¹ = 1 := Rat.mul_inv_cancel _ (by grind)
    have he22 : 0 < e / 2 * k⁻¹ := Rat.mul_pos he2 hki
    obtain ⟨d1, hd1, ih1⟩ := tail_const hX (h :: r) g hT e1 he1
    obtain ⟨d2, hd2, ih2⟩ := tail_const hX r h hT.tail (e / 2 * k⁻¹) he22
    obtain ⟨d3, hd3, hg3⟩ := small_mul (nrm1_nn hX g) (e := e1 / 2) (by grind)
    obtain ⟨d4, hd4, hh4⟩ := small_mul (nrm1_nn hX h) (e := e / 2 * k⁻¹ / 2) (by grind)
    obtain ⟨d5, hd5, h51, h52⟩ := pos_min hd1 hd2
    obtain ⟨d6, hd6, h63, h64⟩ := pos_min hd3 hd4
    obtain ⟨d, hd, hdA, hdB⟩ := pos_min hd5 hd6
    refine ⟨d, hd, fun s x y hs hx hy hxy hfx => ?_⟩
    rcases sgn_case (x := evP g x) he1 with ⟨s', hs', hgx⟩ | hgx
    · have hgy := near_sign hs' hx hy hxy (hg3 d (by grind) (by grind)) hgx
      have w := ih1 s' x y hs' hx hy (hxy.mono (by grind)) hgx
      have g1 := sg_of hs' (x := evP g x) (by grind)
      have g2 := sg_of hs' (x := evP g y) (by grind)
      refine wr_congr (by rw [g1, g2]) ?_
      rw [g2, if_neg (by rcases hs' with rfl | rfl <;> decide)]
      exact w
    · have hqg := (nrm_ev hx q).mul hgx
      have hh : e / 2 * k⁻¹ ≤ ((-s : Int) : Rat) * evP h x := by
        refine le_cancel hk ?_
        have e1 : k * (e / 2 * k⁻¹) = e / 2 * (k * k⁻¹) := by grind
        rw [e1, hkk]
        obtain ⟨a1, a2⟩ := hqg
        have := hf x
        rcases hs with rfl | rfl
        · rw [one_cast] at hfx
          rw [mone_cast]
          grind
        · rw [mone_cast] at hfx
          rw [show ((-(-1 : Int) : Int) : Rat) = 1 from rfl]
          grind
      have hs' : -s = 1 ∨ -s = -1 := by rcases hs with rfl | rfl <;> simp
      have hhy := near_sign hs' hx hy hxy (hh4 d (by grind) (by grind)) hh
      have w := ih2 (-s) x y hs' hx hy (hxy.mono (by grind)) hh
      have g1 := sg_of hs' (x := evP h x) (by grind)
      have g2 := sg_of hs' (x := evP h y) (by grind)
      rw [wr_mid hs g1, wr_mid hs g2, w]

/-- Two polynomials of a chain that follow each other are not both small. -/
theorem not_both {X : Rat} (hX : 0 ≤ X) : ∀ (t : List (List Rat)) (f g : List Rat), StC (f :: g :: t) → ∃ c : Rat, 0 < c ∧ ∀ x, Ab X x → Ab c (evP f x) → Ab c (evP g x) → False
  | [], _, g, h => by
    obtain ⟨c, hc, hg⟩ := h
    by_cases p : 0 < c
    · exact ⟨c / 2, by grind, fun x _ _ h2 => by obtain ⟨a, b⟩ := h2; rw [hg] at a b; grind⟩
    · exact ⟨-c / 2, by grind, fun x _ _ h2 => by obtain ⟨a, b⟩ := h2; rw [hg] at a b; grind⟩
  | h :: r, f, g, hS => by
    obtain ⟨⟨q, k, hk, hf⟩, hT⟩ := hS
    obtain ⟨c1, hc1, ih⟩ := not_both hX r g h hT
    have hQ := nrm_nn hX q
    obtain ⟨d, hd, hd2⟩ := small_mul (L := nrm X q + 1) (e := k * c1) (by grind) (Rat.mul_pos hk hc1)
    obtain ⟨c, hc, hcA, hcB⟩ := pos_min hc1 hd
    refine ⟨c, hc, fun x hx h1 h2 => ih x hx (h2.mono hcA) ?_⟩
    have a := ((nrm_ev hx q).mul h2).sub h1
    have b := hd2 c (by grind) hcB
    have e : evP q x * evP g x - evP f x = k * evP h x := by rw [hf]; grind
    rw [e] at a
    obtain ⟨a1, a2⟩ := a
    constructor
    · refine le_cancel hk ?_; grind
    · refine le_cancel hk ?_; grind

end Go.Proofs.YtffndcjmabjhiaaGreatDoor

namespace Go.Proofs.YtffndcjmabjhiaaGreatDoor
open Num

/-- A Sturm chain of F. -/
structure Sturm (F : List Rat) (ls : List (List Rat)) : Prop where
  ch : StC ls
  hd : ∃ t, ls = F :: t ∧ ∀ D t', t = D :: t' → ∀ i, cf D i = dcf (cf F) i
/-- F changes its sign on the way from x to y, or becomes zero. -/
def chg (F : List Rat) (x y : Rat) : Prop := (evP F x < 0 ∧ 0 ≤ evP F y) ∨ (0 < evP F x ∧ evP F y ≤ 0)

theorem var_val {F D : List Rat} {t : List (List Rat)} {x : Rat} {s : Int} (hs : s = 1 ∨ s = -1) (h : sgnQ (evP D x) = s) :
    varL (F :: D :: t) x = (if (s : Rat) * evP F x < 0 then 1 else 0) + wr s t x := by
  have hs' : -s = 1 ∨ -s = -1 := by rcases hs with rfl | rfl <;> simp
  rw [varL_wr]
  by_cases c : (s : Rat) * evP F x < 0
  · have e : sgnQ (evP F x) = -s := sg_of hs' (by
      rcases hs with rfl | rfl
      · rw [one_cast] at c; rw [mone_cast]; grind
      · rw [mone_cast] at c; rw [show ((-(-1 : Int) : Int) : Rat) = 1 from rfl]; grind)
    rw [if_pos c, wr_first hs' e, wr_other hs' (by rw [h]; omega), show - -s = s by omega]
  · rw [if_neg c]
    by_cases c0 : evP F x = 0
    · rw [wr_zero (sg_zero c0), wr_first hs h]; omega
    · have e : sgnQ (evP F x) = s := sg_of hs (by
        rcases hs with rfl | rfl
        · rw [one_cast] at c ⊢; grind
        · rw [mone_cast] at c ⊢; grind)
      rw [wr_first hs e, wr_same hs h]; omega

/-- What a short step does. -/
structure Step (F : List Rat) (ls : List (List Rat)) (x y : Rat) : Prop where
  z : evP F x = 0 → evP F y ≠ 0
  c : chg F x y → varL ls x = varL ls y + 1
  n : ¬ chg F x y → varL ls x = varL ls y

theorem Sturm.step {X : Rat} (hX : 0 ≤ X) {F : List Rat} {ls : List (List Rat)} (h : Sturm F ls) : ∃ d : Rat, 0 < d ∧ ∀ x y, Ab X x → Ab X y → x < y → y - x ≤ d → Step F ls x y := by
  obtain ⟨hc, t, rfl, hD⟩ := h
  cases t with
  | nil =>
    obtain ⟨c, hc0, hv⟩ := hc
    have hz : ∀ x, varL [F] x = 0 := fun x => by
      rw [varL_wr]
      show (if sgnQ (evP F x) * 0 < 0 then 1 else 0) + 0 = 0
      rw [if_neg (by omega)]
    refine ⟨1, by decide, fun x y _ _ _ _ => ⟨fun k => ?_, fun k => ?_, fun _ => by rw [hz, hz]⟩⟩
    · rw [hv] at k; exact absurd k hc0
    · unfold chg at k; rw [hv, hv] at k; grind
  | cons D t =>
    have hD := hD D t rfl
    obtain ⟨c0, h0, hnb⟩ := not_both hX t F D hc
    obtain ⟨d1, hd1, T1⟩ := tail_const hX (D :: t) F hc c0 h0
    obtain ⟨d2, hd2, T2⟩ := tail_const hX t D hc.tail c0 h0
    obtain ⟨d3, hd3, S3⟩ := small_mul (nrm1_nn hX F) (e := c0 / 2) (by grind)
    obtain ⟨d4, hd4, S4⟩ := small_mul (nrm1_nn hX D) (e := c0 / 2) (by grind)
    obtain ⟨d5, hd5, S5⟩ := small_mul (nrm2_nn hX F) (e := c0 / 2) (by grind)
    obtain ⟨e1, he1, e11, e12⟩ := pos_min hd1 hd2
    obtain ⟨e2, he2, e21, e22⟩ := pos_min hd3 hd4
    obtain ⟨e3, he3, e31, e32⟩ := pos_min he1 he2
    obtain ⟨d, hd, dA, dB⟩ := pos_min he3 hd5
    refine ⟨d, hd, fun x y hx hy hlt hle => ?_⟩
    have hxy : Ab d (y - x) := ⟨by grind, hle⟩
    rcases sgn_case (x := evP D x) h0 with ⟨s, hs, hDx⟩ | hDx
    · have hDy := near_sign hs hx hy hxy (S4 d (by grind) (by grind)) hDx
      have w := T2 s x y hs hx hy (hxy.mono (by grind)) hDx
      have g1 := sg_of hs (x := evP D x) (by grind)
      have g2 := sg_of hs (x := evP D y) (by grind)
      obtain ⟨g, hg, hgD⟩ := ev_slope hx hy hxy hD
      obtain ⟨hg1, hg2⟩ := hgD.mono (S5 d (by grind) (by grind))
      have up : 0 < (s : Rat) * evP F y - (s : Rat) * evP F x := by
        have : 0 < ((s : Rat) * g) * (y - x) := by
          refine Rat.mul_pos ?_ (by grind)
          rcases hs with rfl | rfl
          · rw [one_cast] at hDx ⊢; grind
          · rw [mone_cast] at hDx ⊢; grind
        have e : (s : Rat) * evP F y - (s : Rat) * evP F x = (s : Rat) * g * (y - x) := by
          have : (s : Rat) * evP F y - (s : Rat) * evP F x = (s : Rat) * (evP F y - evP F x) := by grind
          rw [this, hg]; grind
        rw [e]; exact this
      have vx := var_val (F := F) (t := t) hs g1
      have vy := var_val (F := F) (t := t) hs g2
      rw [w] at vx
      refine ⟨fun k => ?_, fun k => ?_, fun k => ?_⟩
      · intro k2; rw [k, k2] at up; grind
      · rw [vx, vy]
        unfold chg at k
        have a : (s : Rat) * evP F x < 0 ∧ ¬ (s : Rat) * evP F y < 0 := by
          rcases hs with rfl | rfl
          · rw [one_cast] at up ⊢; grind
          · rw [mone_cast] at up ⊢; grind
        rw [if_pos a.1, if_neg a.2]; omega
      · rw [vx, vy]
        unfold chg at k
        by_cases a : (s : Rat) * evP F x < 0
        · have b : (s : Rat) * evP F y < 0 := by
            rcases hs with rfl | rfl
            · rw [one_cast] at up a ⊢; grind
            · rw [mone_cast] at up a ⊢; grind
          rw [if_pos a, if_pos b]
        · have b : ¬ (s : Rat) * evP F y < 0 := by grind
          rw [if_neg a, if_neg b]
    · rcases sgn_case (x := evP F x) h0 with ⟨s, hs, hFx⟩ | hFx
      · have hFy := near_sign hs hx hy hxy (S3 d (by grind) (by grind)) hFx
        have w := T1 s x y hs hx hy (hxy.mono (by grind)) hFx
        have g1 := sg_of hs (x := evP F x) (by grind)
        have g2 := sg_of hs (x := evP F y) (by grind)
        have nc : ¬ chg F x y := by
          unfold chg
          rcases hs with rfl | rfl
          · rw [one_cast] at hFx hFy; grind
          · rw [mone_cast] at hFx hFy; grind
        refine ⟨fun k => ?_, fun k => absurd k nc, fun _ => ?_⟩
        · rw [k] at hFx; grind
        · rw [varL_wr, varL_wr, wr_first hs g1, wr_first hs g2, w]
      · exact (hnb x hx hFx hDx).elim

/-- What holds for short steps and is transitive holds for all. -/
theorem many_steps {X d : Rat} (hd : 0 < d) (P : Rat → Rat → Prop) (hr : ∀ x, P x x) (ht : ∀ x y z, x ≤ y → y ≤ z → P x y → P y z → P x z) (hp : ∀ x y, Ab X x → Ab X y → x < y → y - x ≤ d → P x y) :
    ∀ (n : Nat) (a b : Rat), Ab X a → Ab X b → a ≤ b → b - a ≤ (n : Rat) * d → P a b := by
  intro n
  induction n with
  | zero =>
    intro a b _ _ h k
    have e : ((0 : Nat) : Rat) * d = 0 := by rw [show ((0 : Nat) : Rat) = 0 from rfl]; grind
    rw [e] at k
    have : a = b := by grind
    rw [this]; exact hr b
  | succ n ih =>
    intro a b ha hb h k
    by_cases c : b - a ≤ d
    · by_cases c2 : a = b
      · rw [c2]; exact hr b
      · exact hp a b ha hb (by grind) c
    · have e : ((n + 1 : Nat) : Rat) * d = (n : Rat) * d + d := by rw [Rat.natCast_add, show ((1 : Nat) : Rat) = 1 from rfl]; grind
      rw [e] at k
      have hm : Ab X (a + d) := by
        obtain ⟨a1, a2⟩ := ha; obtain ⟨b1, b2⟩ := hb; exact ⟨by grind, by grind⟩
      exact ht a (a + d) b (by grind) (by grind) (hp a (a + d) ha hm (by grind) (by grind)) (ih (a + d) b hm hb (by grind) (by grind))
theorem rat_den (v : Rat) : v * (v.den : Rat) = (v.num : Rat) := by
  have hd : (v.den : Rat) ≠ 0 := by
    intro e
    have h3 : v.den = 0 := by exact_mod_cast e
    have := v.den_pos
    omega
  have e : v = (v.num : Rat) / (v.den : Rat) := by
    conv => lhs; rw [← Rat.num_divInt_den v]
    rw [Rat.divInt_eq_div]; rfl
  conv => lhs; arg 1; rw [e]
  grind
theorem rat_le_nat (r : Rat) : ∃ n : Nat, r ≤ (n : Rat) := by
  refine ⟨r.num.natAbs, ?_⟩
  have h1 : r * (r.den : Rat) = (r.num : Rat) := rat_den r
  have h2 : (r.num : Rat) ≤ ((r.num.natAbs : Nat) : Rat) := by
    have : (r.num : Rat) ≤ (((r.num.natAbs : Nat) : Int) : Rat) := Rat.intCast_le_intCast.2 (by omega)
    exact this
  have h3 : (1 : Rat) ≤ (r.den : Rat) := by
    have : (((1 : Nat) : Int) : Rat) ≤ ((r.den : Int) : Rat) := Rat.intCast_le_intCast.2 (by have := r.den_pos; omega)
    exact this
  have h4 : (0 : Rat) ≤ ((r.num.natAbs : Nat) : Rat) := by
    have : ((0 : Int) : Rat) ≤ (((r.num.natAbs : Nat) : Int) : Rat) := Rat.intCast_le_intCast.2 (by omega)
    exact this
  by_cases c : r ≤ 0
  · grind
  · have : 0 ≤ r * ((r.den : Rat) - 1) := Rat.mul_nonneg (by grind) (by grind)
    grind
theorem all_steps {X d : Rat} (hd : 0 < d) (P : Rat → Rat → Prop) (hr : ∀ x, P x x) (ht : ∀ x y z, x ≤ y → y ≤ z → P x y → P y z → P x z) (hp : ∀ x y, Ab X x → Ab X y → x < y → y - x ≤ d → P x y)
    {a b : Rat} (ha : Ab X a) (hb : Ab X b) (h : a ≤ b) : P a b := by
  obtain ⟨n, hn⟩ := rat_le_nat ((b - a) * d⁻¹)
  refine many_steps hd P hr ht hp n a b ha hb h ?_
  have k := mul_up hn (c := d) (by grind)
  have e : (b - a) * d⁻¹ * d = (b - a) * (d * d⁻¹) := by grind
  rw [e, Rat.mul_inv_cancel _ (by grind)] at k
  grind

section
variable {X : Rat} (hX : 0 ≤ X) {F : List Rat} {ls : List (List Rat)} (h : Sturm F ls)
include hX h
theorem Sturm.mono {a b : Rat} (ha : Ab X a) (hb : Ab X b) (hab : a ≤ b) : varL ls b ≤ varL ls a := by
  obtain ⟨d, hd, hs⟩ := h.step hX
  refine all_steps (X := X) hd (fun x y => varL ls y ≤ varL ls x) (fun _ => Nat.le_refl _) (fun _ _ _ _ _ h1 h2 => Nat.le_trans h2 h1) (fun x y hx hy h1 h2 => ?_) ha hb hab
  have s := hs x y hx hy h1 h2
  by_cases c : chg F x y
  · have := s.c c; omega
  · have := s.n c; omega
/-- Where F keeps its sign, the variations stay. -/
theorem Sturm.still {a b : Rat} {s : Int} (hs1 : s = 1 ∨ s = -1) (ha : Ab X a) (hb : Ab X b) (hab : a ≤ b) (hk : ∀ x, a ≤ x → x ≤ b → 0 < (s : Rat) * evP F x) : varL ls a = varL ls b := by
  obtain ⟨d, hd, hs⟩ := h.step hX
  refine all_steps (X := X) hd (fun x y => a ≤ x → y ≤ b → varL ls x = varL ls y) (fun _ _ _ => rfl) (fun x y z h1 h2 h3 h4 h5 h6 => (h3 h5 (by grind)).trans (h4 (by grind) h6)) (fun x y hx hy h1 h2 h3 h4 => ?_) ha hb hab (by grind) (by grind)
  refine (hs x y hx hy h1 h2).n fun c => ?_
  have k1 := hk x h3 (by grind)
  have k2 := hk y (by grind) h4
  unfold chg at c
  rcases hs1 with rfl | rfl
  · rw [one_cast] at k1 k2; grind
  · rw [mone_cast] at k1 k2; grind
/-- Where F grows, or falls, the variations differ by one if its sign changes. -/
theorem Sturm.slope {a b : Rat} {s : Int} (hs1 : s = 1 ∨ s = -1) (ha : Ab X a) (hb : Ab X b) (hab : a ≤ b) (hk : ∀ x y, a ≤ x → x < y → y ≤ b → (s : Rat) * evP F x < (s : Rat) * evP F y) :
    varL ls a + (if (s : Rat) * evP F b < 0 then 1 else 0) = varL ls b + (if (s : Rat) * evP F a < 0 then 1 else 0) := by
  obtain ⟨d, hd, hs⟩ := h.step hX
  refine all_steps (X := X) hd (fun x y => a ≤ x → y ≤ b → varL ls x + (if (s : Rat) * evP F y < 0 then 1 else 0) = varL ls y + (if (s : Rat) * evP F x < 0 then 1 else 0)) (fun _ _ _ => rfl)
    (fun x y z h1 h2 h3 h4 h5 h6 => by have := h3 h5 (by grind); have := h4 (by grind) h6; omega) (fun x y hx hy h1 h2 h3 h4 => ?_) ha hb hab (by grind) (by grind)
  have k := hk x y h3 h1 h4
  have st := hs x y hx hy h1 h2
  by_cases c : chg F x y
  · have := st.c c
    unfold chg at c
    have a : (s : Rat) * evP F x < 0 ∧ ¬ (s : Rat) * evP F y < 0 := by
      rcases hs1 with rfl | rfl
      · rw [one_cast] at k ⊢; grind
      · rw [mone_cast] at k ⊢; grind
    rw [if_pos a.1, if_neg a.2]; omega
  · have := st.n c
    unfold chg at c
    by_cases a : (s : Rat) * evP F x < 0
    · have b : (s : Rat) * evP F y < 0 := by
        rcases hs1 with rfl | rfl
        · rw [one_cast] at k a ⊢; grind
        · rw [mone_cast] at k a ⊢; grind
      rw [if_pos a, if_pos b]; omega
    · have b : ¬ (s : Rat) * evP F y < 0 := by grind
      rw [if_neg a, if_neg b]; omega
/-- A root at the end counts. -/
theorem Sturm.root {a b : Rat} (ha : Ab X a) (hb : Ab X b) (hab : a < b) (h0 : evP F b = 0) : varL ls b < varL ls a := by
  obtain ⟨d, hd, hs⟩ := h.step hX
  obtain ⟨x, hx1, hx2, hx3⟩ : ∃ x : Rat, a ≤ x ∧ x < b ∧ b - x ≤ d := by
    by_cases c : b - a ≤ d
    · exact ⟨a, by grind, hab, c⟩
    · exact ⟨b - d, by grind, by grind, by grind⟩
  have hx : Ab X x := by
    obtain ⟨a1, a2⟩ := ha; obtain ⟨b1, b2⟩ := hb; exact ⟨by grind, by grind⟩
  have st := hs x b hx hb hx2 hx3
  have hn : evP F x ≠ 0 := fun k => st.z k h0
  have := st.c (by unfold chg; rw [h0]; grind)
  have := h.mono hX ha hx hx1
  omega
end

end Go.Proofs.YtffndcjmabjhiaaGreatDoor

namespace Go.Proofs.YtffndcjmabjhiaaGreatDoor
open Num

/-- Series of fractions. -/
def PS : Type := Nat → Rat
def cK (k : Rat) : PS := fun i => if i = 0 then k else 0
def PS.mulD (F G : PS) : PS := conv F G
def PS.powD (F : PS) : Nat → PS
  | 0 => cK 1
  | n + 1 => PS.mulD (PS.powD F n) F
instance : Add PS := ⟨fun F G => fun i => F i + G i⟩
instance : Mul PS := ⟨PS.mulD⟩
instance : Neg PS := ⟨fun F => fun i => -F i⟩
instance : Sub PS := ⟨fun F G => fun i => F i - G i⟩
instance : NatCast PS := ⟨fun n => cK (n : Rat)⟩
instance : IntCast PS := ⟨fun n => cK (n : Rat)⟩
instance (n : Nat) : OfNat PS n := ⟨cK (n : Rat)⟩
instance : SMul Nat PS := ⟨fun n F => PS.mulD (cK (n : Rat)) F⟩
instance : SMul Int PS := ⟨fun n F => PS.mulD (cK (n : Rat)) F⟩
instance : HPow PS Nat PS := ⟨PS.powD⟩
theorem PS.mul_def (F G : PS) : F * G = conv F G := rfl
theorem PS.ext {F G : PS} (h : ∀ i, F i = G i) : F = G := funext h
theorem cK_conv (k : Rat) (F : PS) (j : Nat) : conv (cK k) F j = k * F j := by
  unfold conv
  have e : sumN (fun i => cK k i * F (j - i)) (j + 1) = sumN (fun i => if i = 0 then k * F (j - i) else 0) (j + 1) := sumN_congr fun i _ => by
    unfold cK; split
    · rfl
    · grind
  rw [e, sumN_one (fun i => k * F (j - i)), if_pos (by omega)]; rfl
theorem PS.add_apply (F G : PS) (i : Nat) : (F + G) i = F i + G i := rfl
theorem PS.sub_apply (F G : PS) (i : Nat) : (F - G) i = F i - G i := rfl
theorem PS.neg_apply (F : PS) (i : Nat) : (-F) i = -F i := rfl
theorem PS.cm (F G : PS) : F * G = G * F := PS.ext fun i => conv_comm F G i
theorem PS.ld (F G H : PS) : F * (G + H) = F * G + F * H := PS.ext fun i => conv_add F G H i
theorem PS.zm (F : PS) : (0 : PS) * F = 0 := PS.ext fun i => by
  show conv (cK ((0 : Nat) : Rat)) F i = cK ((0 : Nat) : Rat) i
  rw [cK_conv]; unfold cK; rw [show ((0 : Nat) : Rat) = 0 from rfl]; split <;> grind
theorem PS.om (F : PS) : (1 : PS) * F = F := PS.ext fun i => by
  show conv (cK ((1 : Nat) : Rat)) F i = F i
  rw [cK_conv, show ((1 : Nat) : Rat) = 1 from rfl]; grind
instance : Lean.Grind.CommRing PS where
  add_zero F := PS.ext fun i => by
    show F i + cK ((0 : Nat) : Rat) i = F i
    unfold cK; rw [show ((0 : Nat) : Rat) = 0 from rfl]; split <;> grind
  add_comm F G := PS.ext fun i => by show F i + G i = G i + F i; grind
  add_assoc F G H := PS.ext fun i => by show F i + G i + H i = F i + (G i + H i); grind
  mul_assoc F G H := PS.ext fun i => conv_assoc F G H i
  mul_one F := by rw [PS.cm]; exact PS.om F
  one_mul := PS.om
  left_distrib := PS.ld
  right_distrib F G H := by rw [PS.cm, PS.ld, PS.cm H F, PS.cm H G]
  zero_mul := PS.zm
  mul_zero F := by rw [PS.cm]; exact PS.zm F
  mul_comm := PS.cm
  pow_zero F := rfl
  pow_succ F n := rfl
  ofNat_succ a := PS.ext fun i => by
    show cK ((a + 1 : Nat) : Rat) i = cK (a : Rat) i + cK ((1 : Nat) : Rat) i
    unfold cK; rw [Rat.natCast_add]; split <;> grind
  neg_add_cancel F := PS.ext fun i => by
    show -F i + F i = cK ((0 : Nat) : Rat) i
    unfold cK; rw [show ((0 : Nat) : Rat) = 0 from rfl]; split <;> grind
  sub_eq_add_neg F G := PS.ext fun i => by show F i - G i = F i + -G i; grind
  neg_zsmul z F := PS.ext fun i => by
    show conv (cK ((-z : Int) : Rat)) F i = -conv (cK (z : Rat)) F i
    rw [cK_conv, cK_conv, Rat.intCast_neg]; grind
  intCast_neg z := PS.ext fun i => by
    show cK ((-z : Int) : Rat) i = -cK (z : Rat) i
    unfold cK; rw [Rat.intCast_neg]; split <;> grind

/-- The derivative. -/
def dP (F : PS) : PS := dcf F
theorem dP_mul (F G : PS) : dP (F * G) = dP F * G + F * dP G := PS.ext fun i => dcf_conv F G i
theorem Fs.mulP {F G : PS} (h : Fs F) (k : Fs G) : Fs (F * G) := Fs.conv h k
theorem Fs.addP {F G : PS} (h : Fs F) (k : Fs G) : Fs (F + G) := Fs.add h k
theorem Fs.subP {F G : PS} (h : Fs F) (k : Fs G) : Fs (F - G) := Fs.sub h k
theorem Fs.one : Fs (1 : PS) := ⟨1, fun i hi => by show cK ((1 : Nat) : Rat) i = 0; unfold cK; rw [if_neg (by omega)]⟩
theorem Fs.d {F : PS} (h : Fs F) : Fs (dP F) := by
  obtain ⟨n, h⟩ := h
  exact ⟨n, fun i hi => by show ((i + 1 : Nat) : Rat) * F (i + 1) = 0; rw [h (i + 1) (by omega)]; grind⟩
theorem Fs.cK (k : Rat) : Fs (cK k) := ⟨1, fun i hi => by show (if i = 0 then k else 0) = 0; rw [if_neg (by omega)]⟩
/-- What is not zero has a degree. -/
theorem Fs.top {F : PS} (h : Fs F) : (∀ i, F i = 0) ∨ ∃ t, F t ≠ 0 ∧ ∀ i, t < i → F i = 0 := by
  obtain ⟨n, h⟩ := h
  induction n with
  | zero => exact .inl fun i => h i (Nat.zero_le _)
  | succ n ih =>
    by_cases c : F n = 0
    · exact ih fun i hi => by
        by_cases e : i = n
        · rw [e]; exact c
        · exact h i (by omega)
    · exact .inr ⟨n, c, fun i hi => h i (by omega)⟩
theorem PS.zero_apply (i : Nat) : (0 : PS) i = 0 := by
  show _root_.Go.Proofs.YtffndcjmabjhiaaGreatDoor.cK ((0 : Nat) : Rat) i = 0
  unfold Go.Proofs.YtffndcjmabjhiaaGreatDoor.cK; rw [show ((0 : Nat) : Rat) = 0 from rfl]; split <;> rfl
/-- A factor that is not zero is left out. -/
theorem PS.cancel {A G : PS} (hA : Fs A) (hG : Fs G) (h0 : ∃ i, G i ≠ 0) (h : A * G = 0) : A = 0 := by
  rcases hG.top with c | ⟨t, ht, hz⟩
  · obtain ⟨i, hi⟩ := h0; exact absurd (c i) hi
  · obtain ⟨n, hn⟩ := hA
    exact PS.ext fun i => by
      rw [PS.zero_apply]
      exact conv_low (P := A) (Q := G) (m := t) hz ht n hn (fun j _ => by
        have := congrFun h j
        rw [PS.zero_apply] at this
        exact this) i

theorem sqfree_run {H F1 e S T B : PS} {m : Nat} (hm : 1 ≤ m) (hH : H m ≠ 0) (hHz : ∀ i, m < i → H i = 0) (fF1 : Fs F1) (fe : Fs e) (fS : Fs S) (fB : Fs B) (hd : dP H * F1 = H * e) (fT : Fs T) (hc : T * H + B * S = 1) :
    ∀ (n : Nat) (k : Rat) (g : PS), (∀ i, n ≤ i → g i = 0) → H * (F1 * dP g + cK k * e * g) = g * S → ∀ i, g i = 0 := by
  have fH : Fs H := ⟨m + 1, fun i hi => hHz i (by omega)⟩
  intro n
  induction n with
  | zero => intro k g h _ i; exact h i (Nat.zero_le _)
  | succ n ih =>
    intro k g hg hI
    have fg : Fs g := ⟨n + 1, hg⟩
    obtain ⟨g1, hg1⟩ : ∃ g1 : PS, g1 = T * g + B * (F1 * dP g + cK k * e * g) := ⟨_, rfl⟩
    have fg1 : Fs g1 := by
      rw [hg1]
      exact (fT.mulP fg).addP (fB.mulP ((fF1.mulP fg.d).addP (((Fs.cK k).mulP fe).mulP fg)))
    have hgg : g = H * g1 := by
      have e1 : g = (T * H + B * S) * g := by rw [hc]; grind
      have e2 : (T * H + B * S) * g = T * H * g + B * (g * S) := by grind
      rw [e1, e2, ← hI, hg1]; grind
    have hz : ∀ i, n ≤ i → g1 i = 0 := by
      rcases fg1.top with c | ⟨t, ht, hz⟩
      · exact fun i _ => c i
      · have := conv_top (P := H) (Q := g1) (t := m) (m := t) hHz hz
        by_cases c : n ≤ t
        · exfalso
          have e1 : g (m + t) = 0 := hg _ (by omega)
          rw [hgg] at e1
          have e2 : (H * g1) (m + t) = conv H g1 (m + t) := rfl
          rw [e2, this] at e1
          rcases Rat.mul_eq_zero.1 e1 with c1 | c1
          · exact hH c1
          · exact ht c1
        · exact fun i hi => hz i (by omega)
    have hI1 : H * (F1 * dP g1 + cK (k + 1) * e * g1) = g1 * S := by
      have dg : dP g = dP H * g1 + H * dP g1 := by rw [hgg]; exact dP_mul H g1
      have hk : (cK (k + 1) : PS) = cK k + 1 := PS.ext fun i => by
        show cK (k + 1) i = cK k i + cK ((1 : Nat) : Rat) i
        unfold cK; rw [show ((1 : Nat) : Rat) = 1 from rfl]; split <;> grind
      have hx : (H * (F1 * dP g1 + cK (k + 1) * e * g1) - g1 * S) * H = 0 := by
        rw [hk]
        rw [dg, hgg] at hI
        grind
      have := PS.cancel ((fH.mulP ((fF1.mulP fg1.d).addP (((Fs.cK _).mulP fe).mulP fg1))).subP (fg1.mulP fS)) fH ⟨m, hH⟩ hx
      grind
    have z := ih (k + 1) g1 hz hI1
    intro i
    rw [hgg]
    have : g1 = 0 := PS.ext fun i => by rw [PS.zero_apply]; exact z i
    rw [this]
    have e : H * 0 = (0 : PS) := by grind
    rw [e, PS.zero_apply]

/-- F is what is left of a product P = F * G by its greatest common divisor G with its derivative: F has no divisor in common with its own derivative. -/
theorem sqfree {F G T A B H F1 F2 : PS} (fF : Fs F) (fG : Fs G) (fT : Fs T) (fA : Fs A) (fB : Fs B) (fF1 : Fs F1) (fF2 : Fs F2) (fH : Fs H) (hG : ∃ i, G i ≠ 0)
    (hP : dP (F * G) = T * G) (hg : A * (F * G) + B * (T * G) = G) (h1 : F1 * H = F) (h2 : F2 * H = dP F) : ∀ i, 1 ≤ i → H i = 0 := by
  have hone : A * F + B * T = 1 := by
    have e : (A * F + B * T - 1) * G = 0 := by grind
    have := PS.cancel (((fA.mulP fF).addP (fB.mulP fT)).subP Fs.one) fG hG e
    grind
  rcases fH.top with c | ⟨m, hm, hz⟩
  · exact fun i _ => c i
  · by_cases cm : 1 ≤ m
    · exfalso
      have hd : dP H * F1 = H * (F2 - dP F1) := by
        have := dP_mul F1 H
        rw [h1, ← h2] at this
        grind
      have hS : (A * F1 + B * F2) * H + B * (T - H * F2) = 1 := by
        rw [← hone, ← h1]; grind
      obtain ⟨n, hn⟩ := fG
      have k0 : (cK 0 : PS) = 0 := rfl
      have hI : H * (F1 * dP G + cK 0 * (F2 - dP F1) * G) = G * (T - H * F2) := by
        rw [k0]
        rw [dP_mul, ← h2, ← h1] at hP
        grind
      have z := sqfree_run cm hm hz fF1 (fF2.subP fF1.d) (fT.subP (fH.mulP fF2)) fB hd ((fA.mulP fF1).addP (fB.mulP fF2)) hS n 0 G hn hI
      obtain ⟨i, hi⟩ := hG
      exact hi (z i)
    · exact fun i hi => hz i (by omega)

end Go.Proofs.YtffndcjmabjhiaaGreatDoor

namespace Go.Proofs.YtffndcjmabjhiaaGreatDoor
open Num

/-- Values of a division. -/
theorem ev_div {k x : Rat} {p u q r : List Rat} (h : ∀ i, k * cf p i = conv (cf u) (cf q) i + cf r i) : k * evP p x = evP u x * evP q x + evP r x := by
  have hw := lst_cf (n := u.length + q.length) (F := conv (cf u) (cf q)) (fun i hi => conv_past (fun _ => cf_past) (fun _ => cf_past) i (by omega))
  generalize lst (u.length + q.length) (conv (cf u) (cf q)) = w at hw
  have e := evP_conv (x := x) hw
  have e1 := evP_any (x := x) (l := p) (n := max p.length (max w.length r.length)) (by omega)
  have e2 := evP_any (x := x) (l := w) (n := max p.length (max w.length r.length)) (by omega)
  have e3 := evP_any (x := x) (l := r) (n := max p.length (max w.length r.length)) (by omega)
  rw [← e, e1, e2, e3, ← sumN_mul, ← sumN_add]
  refine sumN_congr fun i _ => ?_
  have := h i
  rw [← hw] at this
  show k * (cf p i * pwR x i) = cf w i * pwR x i + cf r i * pwR x i
  have e4 : k * (cf p i * pwR x i) = (k * cf p i) * pwR x i := by grind
  rw [e4, this]; grind
theorem mono_cf (f : Rat) (s i : Nat) : cf (mono f s) i = if i = s then f else 0 := by
  unfold mono
  rw [cf_set _ _ _ (by simp), cf_replicate]
theorem bd_pw {M : Nat} {c : Rat} (h : bd 1 M c) : ∀ j, bd 1 (M ^ j) (pwR c j)
  | 0 => ⟨1, by rw [Nat.pow_zero]; decide, by show (1 : Rat) * ((1 : Nat) : Rat) = _; rw [show ((1 : Nat) : Rat) = 1 from rfl, one_cast]; grind⟩
  | j + 1 => by
    have := (bd_pw h j).mul h
    rw [Nat.pow_succ]; exact this
theorem psd {M : Nat} {q : List Rat} (hq : bdL 1 M q) (j : Nat) : ∀ (N : Nat) (P : Nat → Rat), (∀ i, bd 1 N (P i)) → (∀ i, q.length - 1 + j ≤ i → P i = 0) →
    ∃ U R : Nat → Rat, (∀ i, j ≤ i → U i = 0) ∧ (∀ i, q.length - 1 ≤ i → R i = 0) ∧ (∀ i, bd 1 (N * (2 * M) ^ j) (R i)) ∧ (∀ i, bd 1 (N * (2 * M) ^ (j - 1)) (U i)) ∧
      ∀ i, pwR (cf q (q.length - 1)) j * P i = conv U (cf q) i + R i := by
  induction j with
  | zero =>
    intro N P hP hz
    refine ⟨fun _ => 0, P, fun _ _ => rfl, fun i hi => hz i (by omega), fun i => by rw [Nat.pow_zero, Nat.mul_one]; exact hP i, fun i => bd.zero _ _, fun i => ?_⟩
    rw [conv_zero (fun _ => rfl)]
    show 1 * P i = 0 + P i
    grind
  | succ j ih =>
    intro N P hP hz
    generalize hL : q.length - 1 = L at *
    generalize hc : cf q L = c at *
    generalize ht : P (L + j) = t
    have hcb : bd 1 M c := by rw [← hc]; exact hq L
    have htb : bd 1 N t := by rw [← ht]; exact hP _
    have hql : ∀ i, L < i → cf q i = 0 := fun i hi => cf_past (by omega)
    obtain ⟨U, R, hU, hR, hRb, hUb, he⟩ := ih (N * (2 * M)) (fun i => c * P i - shf t j (cf q) i) (fun i => by
      have b1 := hcb.mul (hP i)
      have b2 : bd (1 * 1) (N * M) (shf t j (cf q) i) := by
        unfold shf; split
        · exact htb.mul (hq _)
        · exact bd.zero _ _
      have := b1.sub b2
      rw [show M * N + N * M = N * (2 * M) by rw [Nat.mul_comm M N, ← Nat.mul_add, Nat.two_mul]] at this
      exact this) (fun i hi => by
      unfold shf
      rw [if_pos (by omega)]
      by_cases e : i = L + j
      · rw [e, ht, show L + j - j = L by omega, hc]; grind
      · rw [hz i (by omega), hql (i - j) (by omega)]; grind)
    refine ⟨fun i => U i + cf (mono (pwR c j * t) j) i, R, fun i hi => ?_, hR, fun i => ?_, fun i => ?_, fun i => ?_⟩
    · show U i + cf (mono (pwR c j * t) j) i = 0
      rw [hU i (by omega), mono_cf, if_neg (by omega)]; grind
    · have := hRb i
      rw [Nat.mul_assoc, ← Nat.pow_succ'] at this
      exact this
    · show bd 1 _ (U i + cf (mono (pwR c j * t) j) i)
      rw [mono_cf, Nat.add_sub_cancel]
      by_cases e : i = j
      · rw [if_pos e, hU i (by omega)]
        have b := (bd_pw hcb j).mul htb
        have e0 : (0 : Rat) + pwR c j * t = pwR c j * t := by grind
        rw [e0]
        refine b.mono ?_
        rw [Nat.mul_comm]
        exact Nat.mul_le_mul_left _ (Nat.pow_le_pow_left (by omega) _)
      · rw [if_neg e]
        have e0 : U i + 0 = U i := by grind
        rw [e0]
        by_cases c0 : i < j
        · have := hUb i
          rw [Nat.mul_assoc, ← Nat.pow_succ', show (j - 1).succ = j by omega] at this
          exact this
        · rw [hU i (by omega)]; exact bd.zero _ _
    · have k := he i
      rw [conv_addl, mono_conv]
      have e1 : shf (pwR c j * t) j (cf q) i = pwR c j * shf t j (cf q) i := by
        unfold shf; split <;> grind
      rw [e1]
      show pwR c j * c * P i = _
      have k2 : pwR c j * (c * P i - shf t j (cf q) i) = conv U (cf q) i + R i := k
      grind

/-- The sum of the powers of X below j. -/
def geo (X : Nat) : Nat → Nat
  | 0 => 0
  | j + 1 => geo X j * X + 1
/-- Whether two polynomials of lengths lp, lq with sizes N, M that are at most bp/K, bq/K at one place cannot be without a common divisor. -/
def chkZ (X K : Nat) : Nat → Nat → Nat → Nat → Nat → Nat → Nat → Bool
  | 0, _, _, _, _, _, _ => false
  | f + 1, lp, lq, N, M, bp, bq =>
    if lq = 0 then decide (bp < K)
    else decide (lq ≤ lp) && (List.range lq).all fun l => chkZ X K f lq l M (N * (2 * M) ^ (lp + 1 - lq)) bq (M ^ (lp + 1 - lq) * bp + N * (2 * M) ^ (lp - lq) * geo X (lp + 1 - lq) * bq)
theorem bd_ab {N : Nat} {x : Rat} (h : bd 1 N x) : Ab (N : Rat) x := by
  obtain ⟨z, h1, h2⟩ := bd1_int h
  have a : ((-(N : Int) : Int) : Rat) ≤ (z : Rat) := Rat.intCast_le_intCast.2 (by omega)
  have b : (z : Rat) ≤ ((N : Int) : Rat) := Rat.intCast_le_intCast.2 (by omega)
  rw [h2]
  rw [Rat.intCast_neg] at a
  exact ⟨a, b⟩
theorem geo_nB {X N : Nat} : ∀ j, nB (X : Rat) (N : Rat) j = ((N * geo X j : Nat) : Rat)
  | 0 => by show (0 : Rat) = _; rw [show geo X 0 = 0 from rfl, Nat.mul_zero]; rfl
  | j + 1 => by
    show nB (X : Rat) (N : Rat) j * X + N = _
    rw [geo_nB j, show geo X (j + 1) = geo X j * X + 1 from rfl, Rat.natCast_mul, Rat.natCast_mul, Rat.natCast_add, Rat.natCast_mul]
    rw [show ((1 : Nat) : Rat) = 1 from rfl]
    grind
theorem ev_bd {X N j : Nat} {x : Rat} {u : List Rat} (hu : bdL 1 N u) (hl : u.length ≤ j) (hx : Ab (X : Rat) x) : Ab ((N * geo X j : Nat) : Rat) (evP u x) := by
  have h := nrm_ev hx u
  refine h.mono ?_
  rw [← geo_nB]
  refine nrm_le (Rat.natCast_nonneg) (Rat.natCast_nonneg) j u hl fun a ha => ?_
  obtain ⟨i, hi, e⟩ := List.getElem_of_mem ha
  have := hu i
  rw [cf_at hi, e] at this
  exact bd_ab this

theorem bz_const {l : List Rat} (hN : NT l) (h0 : l ≠ []) (h : Bz (cf [1]) (cf l) (cf [])) : l.length = 1 := by
  obtain ⟨a, b, fa, fb, hab⟩ := h
  have hab' : ∀ i, cf [1] i = conv a (cf l) i := fun i => by
    rw [hab, conv_comm b, conv_zero (P := cf []) (fun _ => rfl)]; grind
  have hpl : 0 < l.length := List.length_pos_iff.2 h0
  rcases Fs.top (F := a) fa with c | ⟨t, ht, hz⟩
  · exfalso
    have := hab' 0
    rw [conv_zero c] at this
    exact absurd this (by decide)
  · have k := conv_top (P := a) (Q := cf l) (t := t) (m := l.length - 1) hz (fun i hi => cf_past (by omega))
    apply Classical.byContradiction
    intro c
    rw [← hab', cf_past (by simp; omega)] at k
    rcases Rat.mul_eq_zero.1 k.symm with c1 | c1
    · exact ht c1
    · exact hN.lead h0 c1
theorem const_ev {l : List Rat} (hN : NT l) (h1 : l.length = 1) : ∃ c : Rat, c ≠ 0 ∧ ∀ x, evP l x = c := by
  match l, h1 with
  | [c], _ => exact ⟨c, hN.lead (by simp), fun x => by show (0 : Rat) * x + c = c; grind⟩
/-- A combination that leaves one polynomial for another. -/
theorem Bz.next {p q u r : Nat → Rat} {k : Rat} (hk : k ≠ 0) (hu : Fs u) (h : ∀ i, k * p i = conv u q i + r i) (hB : Bz (cf [1]) p q) : Bz (cf [1]) q r := by
  obtain ⟨a, b, fa, fb, hab⟩ := hB
  have hki : k * k⁻¹ = 1 := Rat.mul_inv_cancel _ hk
  refine ⟨fun i => b i + k⁻¹ * conv a u i, fun i => k⁻¹ * a i, fb.add ((fa.conv hu).smul _), fa.smul _, fun i => ?_⟩
  have e : ∀ i, p i = k⁻¹ * (conv u q i + r i) := fun i => by rw [← h]; grind
  rw [hab, conv_congr (P := a) (fun _ => rfl) e, conv_smulr, conv_add a (conv u q) r, conv_addl, conv_smul, conv_smul, conv_assoc]
  grind
theorem pw_ne {l : Rat} (h : l ≠ 0) : ∀ j, pwR l j ≠ 0
  | 0 => by show (1 : Rat) ≠ 0; decide
  | j + 1 => fun e => by
    rcases Rat.mul_eq_zero.1 (show pwR l j * l = 0 from e) with c | c
    · exact pw_ne h j c
    · exact h c
theorem prs {X K : Nat} {η : Rat} (hη : 0 < η) (hK : (K : Rat) * η = 1) : ∀ (f : Nat) (p q : List Rat) (N M bp bq : Nat), chkZ X K f p.length q.length N M bp bq = true → NT p → NT q → p ≠ [] → bdL 1 N p → bdL 1 M q → Bz (cf [1]) (cf p) (cf q) →
    ∀ x, Ab (X : Rat) x → Ab ((bp : Rat) * η) (evP p x) → Ab ((bq : Rat) * η) (evP q x) → False := by
  intro f
  induction f with
  | zero => intro p q N M bp bq h; exact absurd h (by simp [chkZ])
  | succ f ih =>
    intro p q N M bp bq h hNp hNq hp0 hp hq hB x hx hpx hqx
    unfold chkZ at h
    have hpl : 0 < p.length := List.length_pos_iff.2 hp0
    by_cases hq0 : q = []
    · subst hq0
      rw [if_pos (show ([] : List Rat).length = 0 from rfl)] at h
      have hb := of_decide_eq_true h
      have hl1 := bz_const hNp hp0 hB
      obtain ⟨c, rfl⟩ : ∃ c, p = [c] := by
        match p, hl1 with
        | [c], _ => exact ⟨c, rfl⟩
      have hc0 : c ≠ 0 := hNp.lead (by simp)
      obtain ⟨z, hz1, hz2⟩ := bd1_int (hp 0)
      have hz2 : c = (z : Rat) := hz2
      have hz0 : z ≠ 0 := fun e => by rw [e] at hz2; exact hc0 hz2
      have hev : evP [c] x = c := by show (0 : Rat) * x + c = c; grind
      rw [hev] at hpx
      have hlt : (bp : Rat) * η < 1 := by
        have : ((bp : Int) : Rat) < ((K : Int) : Rat) := Rat.intCast_lt_intCast.2 (by omega)
        have h2 : 0 < (((K : Int) : Rat) - ((bp : Int) : Rat)) * η := Rat.mul_pos (by grind) hη
        have e1 : ((K : Int) : Rat) = (K : Rat) := rfl
        have e2 : ((bp : Int) : Rat) = (bp : Rat) := rfl
        rw [e1, e2] at h2
        grind
      obtain ⟨h1, h2⟩ := hpx
      by_cases s : 0 < z
      · have : ((1 : Int) : Rat) ≤ (z : Rat) := Rat.intCast_le_intCast.2 (by omega)
        rw [one_cast] at this
        grind
      · have : (z : Rat) ≤ ((-1 : Int) : Rat) := Rat.intCast_le_intCast.2 (by omega)
        rw [mone_cast] at this
        grind
    · have hql : 0 < q.length := List.length_pos_iff.2 hq0
      rw [if_neg (by omega), Bool.and_eq_true] at h
      have hle := of_decide_eq_true h.1
      have hall := List.all_eq_true.1 h.2
      generalize hj : p.length + 1 - q.length = j at *
      obtain ⟨U, R, hU, hR, hRb, hUb, he⟩ := psd hq j N (cf p) hp (fun i hi => cf_past (by omega))
      have hu := lst_cf (n := j) (F := U) hU
      have hul := lst_len j U
      have hr := lst_cf (n := q.length - 1) (F := R) hR
      have hrl := lst_len (q.length - 1) R
      have hrN := lst_NT (q.length - 1) R
      generalize lst j U = u at hu hul
      generalize lst (q.length - 1) R = r at hr hrl hrN
      have hub : bdL 1 (N * (2 * M) ^ (p.length - q.length)) u := fun i => by
        rw [hu, show p.length - q.length = j - 1 by omega]; exact hUb i
      have hrb : bdL 1 (N * (2 * M) ^ j) r := fun i => by rw [hr]; exact hRb i
      have hdiv : ∀ i, pwR (cf q (q.length - 1)) j * cf p i = conv (cf u) (cf q) i + cf r i := fun i => by
        rw [hr, conv_congr hu (fun _ => rfl)]; exact he i
      generalize hc : pwR (cf q (q.length - 1)) j = c at *
      have hcb : bd 1 (M ^ j) c := by rw [← hc]; exact bd_pw (hq _) j
      have hc0 : c ≠ 0 := by rw [← hc]; exact pw_ne (hNq.lead hq0) j
      refine ih q r M (N * (2 * M) ^ j) bq (M ^ j * bp + N * (2 * M) ^ (p.length - q.length) * geo X j * bq) (hall r.length (List.mem_range.2 (by omega))) hNq hrN hq0 hq hrb ?_ x hx hqx ?_
      · exact Bz.next hc0 (Fs.cf u) hdiv hB
      · have e := ev_div (x := x) hdiv
        have k := ((bd_ab hcb).mul hpx).sub ((ev_bd hub hul hx).mul hqx)
        have e2 : c * evP p x - evP u x * evP q x = evP r x := by rw [e]; grind
        rw [e2] at k
        refine k.mono ?_
        rw [Rat.natCast_add, Rat.natCast_mul, Rat.natCast_mul]
        grind

end Go.Proofs.YtffndcjmabjhiaaGreatDoor

namespace Go.Proofs.YtffndcjmabjhiaaGreatDoor
open Num

/-- F and its derivative are not both small; e is so small that they hardly change within e. -/
structure Far (X c e : Rat) (F D : List Rat) : Prop where
  x0 : 0 ≤ X
  c0 : 0 < c
  d : ∀ i, cf D i = dcf (cf F) i
  nb : ∀ x, Ab X x → Ab c (evP F x) → Ab c (evP D x) → False
  l1 : nrm1 X F * e ≤ c / 8
  l2 : nrm1 X D * e ≤ c / 8
  l3 : nrm2 X F * e ≤ c / 8
theorem sgn_scA {l : Rat} (hl : l ≠ 0) (s : Int) (hs : s = 1 ∨ s = -1) : ∃ t : Int, (t = 1 ∨ t = -1) ∧ ∃ k : Rat, 0 < k ∧ ∀ u v : Rat, v = l * u → (t : Rat) * u = k * ((s : Rat) * v) := by
  have hli : l * l⁻¹ = 1 := Rat.mul_inv_cancel _ hl
  have hi0 : l⁻¹ ≠ 0 := fun e => by rw [e] at hli; grind
  by_cases c : 0 < l⁻¹
  · refine ⟨s, hs, l⁻¹, c, fun u v h => ?_⟩
    have hu : u = l⁻¹ * v := by rw [h]; grind
    rw [hu]; grind
  · refine ⟨-s, by rcases hs with rfl | rfl <;> simp, -l⁻¹, by grind, fun u v h => ?_⟩
    have hu : u = l⁻¹ * v := by rw [h]; grind
    rw [Rat.intCast_neg, hu]; grind
theorem Sturm.sep {X c e l : Rat} {f F D : List Rat} {ls : List (List Rat)} (h : Sturm f ls) (hF : Far X c e F D) (hl : l ≠ 0) (hv : ∀ x, evP F x = l * evP f x) {a b : Rat} (ha : Ab X a) (hb : Ab X b) (hab : a ≤ b) (hw : b - a ≤ e) :
    varL ls a = varL ls b ∨ (varL ls a = varL ls b + 1 ∧ evP f a ≠ 0) := by
  have hc := hF.c0
  have near : ∀ x, a ≤ x → x ≤ b → Ab X x ∧ Ab e (x - a) := fun x h1 h2 => by
    obtain ⟨a1, a2⟩ := ha; obtain ⟨b1, b2⟩ := hb
    exact ⟨⟨by grind, by grind⟩, by grind, by grind⟩
  rcases sgn_case (x := evP D a) (e := c / 2) (by grind) with ⟨s, hs, hDa⟩ | hDa
  · obtain ⟨t, ht, k, hk, hsc⟩ := sgn_scA hl s hs
    have up : ∀ x y, a ≤ x → x < y → y ≤ b → (t : Rat) * evP f x < (t : Rat) * evP f y := fun x y h1 h2 h3 => by
      obtain ⟨x1, x2⟩ := near x h1 (by grind)
      obtain ⟨y1, y2⟩ := near y (by grind) h3
      have hDx := near_sign hs ha x1 x2 (by have := hF.l2; grind) hDa
      obtain ⟨g, hg, hgD⟩ := ev_slope x1 y1 (d := e) ⟨by grind, by grind⟩ hF.d
      obtain ⟨g1, g2⟩ := hgD.mono hF.l3
      have p : 0 < ((s : Rat) * g) * (y - x) := by
        refine Rat.mul_pos ?_ (by grind)
        rcases hs with rfl | rfl
        · rw [one_cast] at hDx ⊢; grind
        · rw [mone_cast] at hDx ⊢; grind
      have e1 : (s : Rat) * evP F y - (s : Rat) * evP F x = (s : Rat) * g * (y - x) := by
        have : (s : Rat) * evP F y - (s : Rat) * evP F x = (s : Rat) * (evP F y - evP F x) := by grind
        rw [this, hg]; grind
      rw [hsc _ _ (hv x), hsc _ _ (hv y)]
      have p2 := Rat.mul_pos hk p
      rw [← e1] at p2
      grind
    have hs2 := h.slope hF.x0 ht ha hb hab up
    by_cases c1 : (t : Rat) * evP f a < 0
    · rw [if_pos c1] at hs2
      by_cases c2 : (t : Rat) * evP f b < 0
      · rw [if_pos c2] at hs2; left; omega
      · rw [if_neg c2] at hs2
        exact .inr ⟨by omega, fun z => by rw [z] at c1; grind⟩
    · rw [if_neg c1] at hs2
      by_cases c2 : (t : Rat) * evP f b < 0
      · exfalso
        by_cases c3 : a = b
        · rw [c3] at c1; exact c1 c2
        · have := up a b (by grind) (by grind) (by grind); grind
      · rw [if_neg c2] at hs2; left; omega
  · left
    rcases sgn_case (x := evP F a) hc with ⟨s, hs, hFa⟩ | hFa
    · obtain ⟨t, ht, k, hk, hsc⟩ := sgn_scA hl s hs
      refine h.still hF.x0 ht ha hb hab fun x h1 h2 => ?_
      obtain ⟨n1, n2⟩ := near x h1 h2
      have := near_sign hs ha n1 n2 (by have := hF.l1; grind) hFa
      rw [hsc _ _ (hv x)]
      exact Rat.mul_pos hk (by grind)
    · exact (hF.nb a ha hFa (hDa.mono (by grind))).elim

end Go.Proofs.YtffndcjmabjhiaaGreatDoor
