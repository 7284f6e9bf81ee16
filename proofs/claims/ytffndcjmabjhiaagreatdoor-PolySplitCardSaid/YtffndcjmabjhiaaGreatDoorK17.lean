/- Polynomials as lists of fractions: coefficients, products, values. Plain facts. What package poly computes, on lists of fractions, where it does not fail. Plain. Sums and products of polynomials with small coefficients do not fail. Plain. Division of polynomials with small coefficients does not fail; its result is the only one. Plain. Derivatives of polynomials; the rest of the division by the square of x - v. Plain. What the laws PolyRing, PolyDivided and PolyDerivative compute. Plain. -/
import Derived.Test.YtffndcjmabjhiaaGreatDoorK16
import Derived.Test.YtffndcjmabjhiaaGreatDoorK14
namespace Go.Proofs.YtffndcjmabjhiaaGreatDoor
open Num

/-- The coefficient with an index. -/
def cf (l : List Rat) (i : Nat) : Rat := l.getD i 0
/-- The sum of the first n values. -/
def sumN (f : Nat → Rat) : Nat → Rat
  | 0 => 0
  | n + 1 => sumN f n + f n
theorem sumN_congr {f g : Nat → Rat} {n : Nat} (h : ∀ i, i < n → f i = g i) : sumN f n = sumN g n := by
  induction n with
  | zero => rfl
  | succ n ih => rw [sumN, sumN, ih (fun i hi => h i (by omega)), h n (by omega)]
theorem sumN_zero {f : Nat → Rat} {n : Nat} (h : ∀ i, i < n → f i = 0) : sumN f n = 0 := by
  induction n with
  | zero => rfl
  | succ n ih => rw [sumN, ih (fun i hi => h i (by omega)), h n (by omega)]; grind
theorem sumN_add (f g : Nat → Rat) (n : Nat) : sumN (fun i => f i + g i) n = sumN f n + sumN g n := by
  induction n with
  | zero => simp only [sumN]; grind
  | succ n ih => simp only [sumN, ih]; grind
theorem sumN_mul (c : Rat) (f : Nat → Rat) (n : Nat) : sumN (fun i => c * f i) n = c * sumN f n := by
  induction n with
  | zero => simp only [sumN]; grind
  | succ n ih => simp only [sumN, ih]; grind
theorem sumN_mulr (c : Rat) (f : Nat → Rat) (n : Nat) : sumN (fun i => f i * c) n = sumN f n * c := by
  induction n with
  | zero => simp only [sumN]; grind
  | succ n ih => simp only [sumN, ih]; grind
theorem sumN_left (f : Nat → Rat) (n : Nat) : sumN f (n + 1) = f 0 + sumN (fun i => f (i + 1)) n := by
  induction n with
  | zero => simp only [sumN]; grind
  | succ n ih => rw [sumN, ih, sumN]; grind
theorem sumN_rev (f : Nat → Rat) (n : Nat) : sumN (fun i => f (n - 1 - i)) n = sumN f n := by
  induction n with
  | zero => rfl
  | succ n ih =>
    rw [sumN_left, show sumN f (n + 1) = sumN f n + f n from rfl, ← ih]
    have e : sumN (fun i => f (n + 1 - 1 - (i + 1))) n = sumN (fun i => f (n - 1 - i)) n := sumN_congr fun i _ => by rw [show n + 1 - 1 - (i + 1) = n - 1 - i by omega]
    rw [e, show n + 1 - 1 - 0 = n by omega]
    grind
theorem sumN_more (f : Nat → Rat) {n m : Nat} (h : n ≤ m) (hz : ∀ i, n ≤ i → i < m → f i = 0) : sumN f m = sumN f n := by
  induction m with
  | zero => rw [show n = 0 by omega]
  | succ m ih =>
    by_cases e : n = m + 1
    · rw [e]
    · rw [sumN, ih (by omega) (fun i h1 h2 => hz i h1 (by omega)), hz m (by omega) (by omega)]; grind
/-- A sum over a triangle, taken the other way round. -/
theorem sumN_tri (f : Nat → Nat → Rat) (n : Nat) : sumN (fun i => sumN (fun k => f i k) (i + 1)) n = sumN (fun k => sumN (fun d => f (k + d) k) (n - k)) n := by
  induction n with
  | zero => rfl
  | succ n ih =>
    rw [show sumN (fun i => sumN (fun k => f i k) (i + 1)) (n + 1) = sumN (fun i => sumN (fun k => f i k) (i + 1)) n + sumN (fun k => f n k) (n + 1) from rfl, ih]
    have e : sumN (fun k => sumN (fun d => f (k + d) k) (n + 1 - k)) (n + 1) = sumN (fun k => sumN (fun d => f (k + d) k) (n - k) + f n k) (n + 1) := sumN_congr fun k hk => by
      rw [show n + 1 - k = n - k + 1 by omega, sumN, show k + (n - k) = n by omega]
    rw [e, sumN_add]
    have e2 : sumN (fun k => sumN (fun d => f (k + d) k) (n - k)) (n + 1) = sumN (fun k => sumN (fun d => f (k + d) k) (n - k)) n := by
      rw [sumN, show n - n = 0 by omega, sumN]; grind
    rw [e2]

/-- The coefficients of a product. -/
def conv (P Q : Nat → Rat) (j : Nat) : Rat := sumN (fun i => P i * Q (j - i)) (j + 1)
theorem conv_comm (P Q : Nat → Rat) (j : Nat) : conv P Q j = conv Q P j := by
  unfold conv
  rw [← sumN_rev]
  exact sumN_congr fun i hi => by rw [show j + 1 - 1 - i = j - i by omega, show j - (j - i) = i by omega]; grind
theorem conv_add (P Q R : Nat → Rat) (j : Nat) : conv P (fun i => Q i + R i) j = conv P Q j + conv P R j := by
  unfold conv
  rw [← sumN_add]
  exact sumN_congr fun i _ => by grind
theorem conv_assoc (P Q R : Nat → Rat) (j : Nat) : conv (fun i => conv P Q i) R j = conv P (fun i => conv Q R i) j := by
  unfold conv
  have e1 : sumN (fun i => sumN (fun k => P k * Q (i - k)) (i + 1) * R (j - i)) (j + 1) = sumN (fun i => sumN (fun k => P k * Q (i - k) * R (j - i)) (i + 1)) (j + 1) := sumN_congr fun i _ => by rw [sumN_mulr]
  rw [e1, sumN_tri (fun i k => P k * Q (i - k) * R (j - i))]
  refine sumN_congr fun k hk => ?_
  rw [← sumN_mul, show j + 1 - k = j - k + 1 by omega]
  refine sumN_congr fun d hd => ?_
  rw [show k + d - k = d by omega, show j - (k + d) = j - k - d by omega]
  grind
theorem conv_congr {P P' Q Q' : Nat → Rat} (h : ∀ i, P i = P' i) (k : ∀ i, Q i = Q' i) (j : Nat) : conv P Q j = conv P' Q' j := by
  rw [show P = P' from funext h, show Q = Q' from funext k]

theorem cf_nil (i : Nat) : cf [] i = 0 := rfl
theorem cf_zero (a : Rat) (l : List Rat) : cf (a :: l) 0 = a := rfl
theorem cf_succ (a : Rat) (l : List Rat) (i : Nat) : cf (a :: l) (i + 1) = cf l i := rfl
theorem cf_past {l : List Rat} {i : Nat} (h : l.length ≤ i) : cf l i = 0 := by unfold cf; rw [List.getD_eq_getElem?_getD, List.getElem?_eq_none h]; rfl
theorem cf_at {l : List Rat} {i : Nat} (h : i < l.length) : cf l i = l[i] := by unfold cf; rw [List.getD_eq_getElem?_getD, List.getElem?_eq_getElem h]; rfl
theorem cf_get? {l : List Rat} {i : Nat} (h : i < l.length) : l[i]? = some (cf l i) := by rw [cf_at h, List.getElem?_eq_getElem h]
theorem cf_snoc (l : List Rat) (a : Rat) (i : Nat) : cf (l ++ [a]) i = if i = l.length then a else cf l i := by
  unfold cf
  rw [List.getD_eq_getElem?_getD, List.getD_eq_getElem?_getD]
  by_cases h : i < l.length
  · rw [List.getElem?_append_left h, if_neg (by omega)]
  · by_cases e : i = l.length
    · subst e; simp
    · rw [if_neg e, List.getElem?_eq_none (by simp; omega), List.getElem?_eq_none (by omega)]
theorem cf_set (l : List Rat) (k : Nat) (a : Rat) (hk : k < l.length) (i : Nat) : cf (l.set k a) i = if i = k then a else cf l i := by
  unfold cf
  rw [List.getD_eq_getElem?_getD, List.getD_eq_getElem?_getD, List.getElem?_set]
  by_cases h : i = k
  · subst h; rw [if_pos rfl, if_pos rfl, if_pos hk]; rfl
  · rw [if_neg (by omega), if_neg h]
theorem cf_replicate (n i : Nat) : cf (List.replicate n 0) i = 0 := by
  unfold cf
  rw [List.getD_eq_getElem?_getD, List.getElem?_replicate]
  split <;> rfl
theorem cf_mem {l : List Rat} {i : Nat} (h : i < l.length) : cf l i ∈ l := by rw [cf_at h]; exact List.getElem_mem h
theorem cf_ext {l k : List Rat} (hl : l.length = k.length) (h : ∀ i, i < l.length → cf l i = cf k i) : l = k := by
  refine List.ext_getElem hl fun i h1 h2 => ?_
  rw [← cf_at h1, ← cf_at h2]; exact h i h1

/-- Without zeros at the end. -/
def trimP : List Rat → List Rat
  | [] => []
  | a :: l => if trimP l = [] ∧ a = 0 then [] else a :: trimP l
theorem trim_snoc0 (l : List Rat) : trimP (l ++ [0]) = trimP l := by
  induction l with
  | nil => rfl
  | cons a l ih => show (if trimP (l ++ [0]) = [] ∧ a = 0 then [] else a :: trimP (l ++ [0])) = _; rw [ih]; rfl
theorem trim_snoc (l : List Rat) {a : Rat} (h : a ≠ 0) : trimP (l ++ [a]) = l ++ [a] := by
  induction l with
  | nil => show (if trimP [] = [] ∧ a = 0 then [] else a :: trimP []) = _; rw [if_neg (fun k => h k.2)]; rfl
  | cons b l ih =>
    show (if trimP (l ++ [a]) = [] ∧ b = 0 then [] else b :: trimP (l ++ [a])) = _
    rw [ih, if_neg (fun k => by simp at k)]; rfl
theorem trim_cf (l : List Rat) : ∀ i, cf (trimP l) i = cf l i := by
  induction l with
  | nil => intro i; rfl
  | cons a l ih =>
    intro i
    show cf (if trimP l = [] ∧ a = 0 then [] else a :: trimP l) i = _
    split
    · rename_i h
      cases i with
      | zero => rw [cf_zero, h.2, cf_nil]
      | succ i => rw [cf_succ, ← ih i, h.1, cf_nil, cf_nil]
    · cases i with
      | zero => rfl
      | succ i => rw [cf_succ, cf_succ, ih i]
theorem trim_len (l : List Rat) : (trimP l).length ≤ l.length := by
  induction l with
  | nil => exact Nat.le_refl _
  | cons a l ih =>
    show (if trimP l = [] ∧ a = 0 then [] else a :: trimP l).length ≤ _
    split
    · simp
    · simp; exact ih
/-- Without a zero at the end. -/
def NT (l : List Rat) : Prop := l = [] ∨ cf l (l.length - 1) ≠ 0
theorem NT.nil : NT [] := Or.inl rfl
theorem NT.lead {l : List Rat} (h : NT l) (h0 : l ≠ []) : cf l (l.length - 1) ≠ 0 := h.resolve_left h0
theorem trim_NT (l : List Rat) : NT (trimP l) := by
  induction l with
  | nil => exact Or.inl rfl
  | cons a l ih =>
    show NT (if trimP l = [] ∧ a = 0 then [] else a :: trimP l)
    split
    · exact Or.inl rfl
    · rename_i h
      refine Or.inr ?_
      by_cases e : trimP l = []
      · rw [e]; show a ≠ 0; exact fun k => h ⟨e, k⟩
      · have k := ih.resolve_left e
        have hp : 0 < (trimP l).length := List.length_pos_iff.2 e
        rw [List.length_cons, show (trimP l).length + 1 - 1 = (trimP l).length - 1 + 1 by omega, cf_succ]
        exact k
theorem NT.trim {l : List Rat} (h : NT l) : trimP l = l := by
  cases h with
  | inl h => rw [h]; rfl
  | inr h =>
    rcases List.eq_nil_or_concat l with e | ⟨k, a, e⟩
    · rw [e]; rfl
    · rw [List.concat_eq_append] at e
      subst e
      refine trim_snoc k ?_
      rwa [cf_snoc, List.length_append, if_pos (by simp)] at h
theorem NT_len {l k : List Rat} (hl : NT l) (h : ∀ i, cf l i = cf k i) : l.length ≤ k.length := by
  cases hl with
  | inl e => rw [e]; exact Nat.zero_le _
  | inr hl =>
    apply Classical.byContradiction
    intro hc
    apply hl
    rw [h, cf_past (by omega)]
theorem NT_ext {l k : List Rat} (hl : NT l) (hk : NT k) (h : ∀ i, cf l i = cf k i) : l = k :=
  cf_ext (Nat.le_antisymm (NT_len hl h) (NT_len hk fun i => (h i).symm)) fun i _ => h i

/-- The value of a polynomial. -/
def evP (l : List Rat) (x : Rat) : Rat := l.foldr (fun c v => v * x + c) 0
/-- A power. -/
def pwR (x : Rat) : Nat → Rat
  | 0 => 1
  | n + 1 => pwR x n * x
theorem evP_sum (x : Rat) (l : List Rat) : evP l x = sumN (fun i => cf l i * pwR x i) l.length := by
  induction l with
  | nil => rfl
  | cons a l ih =>
    show evP l x * x + a = _
    rw [List.length_cons, sumN_left, ih, cf_zero, ← sumN_mulr]
    have e : sumN (fun i => cf l i * pwR x i * x) l.length = sumN (fun i => cf (a :: l) (i + 1) * pwR x (i + 1)) l.length := sumN_congr fun i _ => by rw [cf_succ]; show _ = cf l i * (pwR x i * x); grind
    rw [e, show pwR x 0 = 1 from rfl]; grind
theorem evP_any {x : Rat} {l : List Rat} {n : Nat} (h : l.length ≤ n) : evP l x = sumN (fun i => cf l i * pwR x i) n := by
  rw [evP_sum, sumN_more _ h]
  intro i h1 _
  rw [cf_past h1]; grind
theorem evP_congr {x : Rat} {l k : List Rat} (h : ∀ i, cf l i = cf k i) : evP l x = evP k x := by
  rw [evP_any (Nat.le_max_left l.length k.length), evP_any (Nat.le_max_right l.length k.length)]
  exact sumN_congr fun i _ => by rw [h]
theorem evP_trim (x : Rat) (l : List Rat) : evP (trimP l) x = evP l x := evP_congr (trim_cf l)
theorem pwR_add (x : Rat) (a b : Nat) : pwR x (a + b) = pwR x a * pwR x b := by
  induction b with
  | zero => show _ = pwR x a * 1; grind
  | succ b ih => show pwR x (a + b) * x = pwR x a * (pwR x b * x); rw [ih]; grind
/-- Values are multiplied. -/
theorem ev_conv (x : Rat) (P Q : Nat → Rat) (n m : Nat) (hP : ∀ i, n ≤ i → P i = 0) (hQ : ∀ i, m ≤ i → Q i = 0) :
    sumN (fun j => conv P Q j * pwR x j) (n + m) = sumN (fun i => P i * pwR x i) n * sumN (fun i => Q i * pwR x i) m := by
  unfold conv
  have e1 : sumN (fun j => sumN (fun i => P i * Q (j - i)) (j + 1) * pwR x j) (n + m) = sumN (fun j => sumN (fun i => P i * Q (j - i) * pwR x j) (j + 1)) (n + m) := sumN_congr fun j _ => by rw [sumN_mulr]
  rw [e1, sumN_tri (fun j i => P i * Q (j - i) * pwR x j)]
  have e2 : sumN (fun k => sumN (fun d => P k * Q (k + d - k) * pwR x (k + d)) (n + m - k)) (n + m) = sumN (fun k => P k * pwR x k * sumN (fun d => Q d * pwR x d) m) (n + m) := sumN_congr fun k hk => by
    rw [← sumN_mul]
    have e3 : sumN (fun d => P k * Q (k + d - k) * pwR x (k + d)) (n + m - k) = sumN (fun d => P k * pwR x k * (Q d * pwR x d)) (n + m - k) := sumN_congr fun d _ => by
      rw [show k + d - k = d by omega, pwR_add]; grind
    rw [e3]
    by_cases hkn : n ≤ k
    · rw [sumN_zero (fun i _ => by rw [hP k hkn]; grind), sumN_zero (fun i _ => by rw [hP k hkn]; grind)]
    · exact sumN_more _ (by omega) fun i h1 _ => by rw [hQ i h1]; grind
  rw [e2, sumN_mulr, sumN_more (fun i => P i * pwR x i) (Nat.le_add_right n m) (fun i h1 _ => by rw [hP i h1]; grind)]
theorem evP_conv {x : Rat} {p q l : List Rat} (h : ∀ j, cf l j = conv (cf p) (cf q) j) : evP l x = evP p x * evP q x := by
  have hz : ∀ j, p.length + q.length ≤ j → conv (cf p) (cf q) j = 0 := fun j hj => sumN_zero fun i hi => by
    by_cases hip : p.length ≤ i
    · rw [cf_past hip]; grind
    · rw [cf_past (l := q) (i := j - i) (by omega)]; grind
  rw [evP_sum x p, evP_sum x q, ← ev_conv x (cf p) (cf q) _ _ (fun i h => cf_past h) (fun i h => cf_past h), evP_any (Nat.le_max_left l.length (p.length + q.length)), sumN_more _ (Nat.le_max_right l.length (p.length + q.length))]
  · exact sumN_congr fun i _ => by rw [h]
  · intro i h1 _; rw [h, hz i h1]; grind

end Go.Proofs.YtffndcjmabjhiaaGreatDoor

namespace Go.Proofs.YtffndcjmabjhiaaGreatDoor
open Num

/-- The values at all indices below n, if each of them is there. -/
def tabO (g : Nat → Option Rat) : Nat → Option (List Rat)
  | 0 => some []
  | n + 1 => (tabO g n).bind fun l => (g n).bind fun x => some (l ++ [x])
theorem tab_none {g : Nat → Option Rat} {i n : Nat} (h : tabO g i = none) (hn : i ≤ n) : tabO g n = none := by
  induction n with
  | zero => rwa [show i = 0 by omega] at h
  | succ n ih =>
    by_cases e : i = n + 1
    · rwa [← e]
    · show (tabO g n).bind _ = none; rw [ih (by omega)]; rfl
theorem tab_stop {g : Nat → Option Rat} {i n : Nat} {l : List Rat} (h : tabO g i = some l) (hg : g i = none) (hn : i < n) : tabO g n = none := by
  refine tab_none (i := i + 1) ?_ hn
  show (tabO g i).bind _ = none; rw [h]; show (g i).bind _ = none; rw [hg]; rfl
theorem tab_step {g : Nat → Option Rat} {i : Nat} {l : List Rat} {x : Rat} (h : tabO g i = some l) (hg : g i = some x) : tabO g (i + 1) = some (l ++ [x]) := by
  show (tabO g i).bind _ = _; rw [h]; show (g i).bind _ = _; rw [hg]; rfl
theorem tab_some {g : Nat → Option Rat} {n : Nat} {l : List Rat} (h : tabO g n = some l) : l.length = n ∧ ∀ i, i < n → g i = some (cf l i) := by
  induction n generalizing l with
  | zero => cases h; exact ⟨rfl, fun i hi => by omega⟩
  | succ n ih =>
    have h' : (tabO g n).bind (fun l => (g n).bind fun x => some (l ++ [x])) = some l := h
    cases hl : tabO g n with
    | none => rw [hl] at h'; cases h'
    | some k =>
      rw [hl] at h'
      cases hx : g n with
      | none => have h2 : (g n).bind (fun x => some (k ++ [x])) = some l := h'; rw [hx] at h2; cases h2
      | some x =>
        have h2 : (g n).bind (fun x => some (k ++ [x])) = some l := h'
        rw [hx] at h2
        have h3 : k ++ [x] = l := Option.some.inj h2
        obtain ⟨e, f⟩ := ih hl
        subst h3
        refine ⟨by simp [e], fun i hi => ?_⟩
        rw [cf_snoc]
        by_cases c : i = n
        · subst c; rw [if_pos e.symm, hx]
        · rw [if_neg (by omega)]; exact f i (by omega)
theorem tab_all {g : Nat → Option Rat} {n : Nat} (f : Nat → Rat) (h : ∀ i, i < n → g i = some (f i)) : ∃ l, tabO g n = some l ∧ l.length = n ∧ ∀ i, i < n → cf l i = f i := by
  cases hl : tabO g n with
  | some l =>
    obtain ⟨e, k⟩ := tab_some hl
    exact ⟨l, rfl, e, fun i hi => Option.some.inj ((k i hi).symm.trans (h i hi))⟩
  | none =>
    exfalso
    induction n with
    | zero => cases hl
    | succ n ih =>
      cases hk : tabO g n with
      | none => exact ih (fun i hi => h i (by omega)) hk
      | some k => rw [tab_step hk (h n (by omega))] at hl; cases hl

/-- A sum or a difference. -/
def combO (f : Rat → Rat → Option Rat) (p q : List Rat) : Option (List Rat) := (tabO (fun i => f (cf p i) (cf q i)) (max p.length q.length)).map trimP
/-- One product is added to a coefficient. -/
def stepO (a : Rat) (i : Nat) (q : List Rat) (k : Nat) (l : List Rat) : Option (List Rat) := (mulQ a (cf q k)).bind fun m => (addQ (cf l (i + k)) m).bind fun s => some (l.set (i + k) s)
def rowO (a : Rat) (i : Nat) (q : List Rat) : Nat → List Rat → Option (List Rat)
  | 0, l => some l
  | k + 1, l => (rowO a i q k l).bind (stepO a i q k)
def rowsO (p q : List Rat) : Nat → Option (List Rat)
  | 0 => some (List.replicate (p.length + q.length - 1) 0)
  | i + 1 => (rowsO p q i).bind (rowO (cf p i) i q q.length)
/-- A product. -/
def timesO (p q : List Rat) : Option (List Rat) :=
  if p = [] ∨ q = [] then some [] else if 12 < p.length + q.length - 2 then none else (rowsO p q p.length).map trimP
theorem row_none {a : Rat} {i k n : Nat} {q l : List Rat} (h : rowO a i q k l = none) (hn : k ≤ n) : rowO a i q n l = none := by
  induction n with
  | zero => rwa [show k = 0 by omega] at h
  | succ n ih =>
    by_cases e : k = n + 1
    · rwa [← e]
    · show (rowO a i q n l).bind _ = none; rw [ih (by omega)]; rfl
theorem rows_none {p q : List Rat} {i n : Nat} (h : rowsO p q i = none) (hn : i ≤ n) : rowsO p q n = none := by
  induction n with
  | zero => rwa [show i = 0 by omega] at h
  | succ n ih =>
    by_cases e : i = n + 1
    · rwa [← e]
    · show (rowsO p q n).bind _ = none; rw [ih (by omega)]; rfl
theorem row_step {a : Rat} {i k : Nat} {q l l' : List Rat} (h : rowO a i q k l = some l') : rowO a i q (k + 1) l = stepO a i q k l' := by
  show (rowO a i q k l).bind _ = _; rw [h]; rfl
theorem rows_step {p q l : List Rat} {i : Nat} (h : rowsO p q i = some l) : rowsO p q (i + 1) = rowO (cf p i) i q q.length l := by
  show (rowsO p q i).bind _ = _; rw [h]; rfl
theorem times_stop {p q l l' : List Rat} {i k : Nat} (hi : i < p.length) (hk : k < q.length) (h : rowsO p q i = some l) (h2 : rowO (cf p i) i q k l = some l') (h3 : stepO (cf p i) i q k l' = none) : timesO p q = none := by
  have e1 : rowO (cf p i) i q q.length l = none := row_none (k := k + 1) ((row_step h2).trans h3) hk
  have e2 : rowsO p q p.length = none := rows_none (i := i + 1) ((rows_step h).trans e1) hi
  unfold timesO
  rw [if_neg (fun c => by rcases c with c | c <;> simp [c] at hi hk), e2]
  split <;> rfl
theorem step_len {a : Rat} {i k : Nat} {q l l' : List Rat} (h : stepO a i q k l = some l') : l'.length = l.length := by
  unfold stepO at h
  obtain ⟨m, h1, h2⟩ := Option.bind_eq_some_iff.1 h
  obtain ⟨s, h3, h4⟩ := Option.bind_eq_some_iff.1 h2
  cases h4; simp
theorem row_len {a : Rat} {i k : Nat} {q l l' : List Rat} (h : rowO a i q k l = some l') : l'.length = l.length := by
  induction k generalizing l' with
  | zero => cases h; rfl
  | succ k ih =>
    have h' : (rowO a i q k l).bind (stepO a i q k) = some l' := h
    obtain ⟨m, h1, h2⟩ := Option.bind_eq_some_iff.1 h'
    rw [step_len h2, ih h1]
theorem rows_len {p q l : List Rat} {i : Nat} (h : rowsO p q i = some l) : l.length = p.length + q.length - 1 := by
  induction i generalizing l with
  | zero => cases h; simp
  | succ i ih =>
    have h' : (rowsO p q i).bind (rowO (cf p i) i q q.length) = some l := h
    obtain ⟨m, h1, h2⟩ := Option.bind_eq_some_iff.1 h'
    rw [row_len h2, ih h1]

/-- One coefficient of the divisor, times a factor, is taken off. -/
def takeO (f : Rat) (s : Nat) (q : List Rat) (k : Nat) (l : List Rat) : Option (List Rat) := (mulQ f (cf q k)).bind fun m => (subQ (cf l (s + k)) m).bind fun d => some (l.set (s + k) d)
def offO (f : Rat) (s : Nat) (q : List Rat) : Nat → List Rat → Option (List Rat)
  | 0, l => some l
  | k + 1, l => (offO f s q k l).bind (takeO f s q k)
theorem off_none {f : Rat} {s k n : Nat} {q l : List Rat} (h : offO f s q k l = none) (hn : k ≤ n) : offO f s q n l = none := by
  induction n with
  | zero => rwa [show k = 0 by omega] at h
  | succ n ih =>
    by_cases e : k = n + 1
    · rwa [← e]
    · show (offO f s q n l).bind _ = none; rw [ih (by omega)]; rfl
theorem off_step {f : Rat} {s k : Nat} {q l l' : List Rat} (h : offO f s q k l = some l') : offO f s q (k + 1) l = takeO f s q k l' := by
  show (offO f s q k l).bind _ = _; rw [h]; rfl
theorem take_len {f : Rat} {s k : Nat} {q l l' : List Rat} (h : takeO f s q k l = some l') : l'.length = l.length := by
  unfold takeO at h
  obtain ⟨m, h1, h2⟩ := Option.bind_eq_some_iff.1 h
  obtain ⟨s, h3, h4⟩ := Option.bind_eq_some_iff.1 h2
  cases h4; simp
theorem off_len {f : Rat} {s k : Nat} {q l l' : List Rat} (h : offO f s q k l = some l') : l'.length = l.length := by
  induction k generalizing l' with
  | zero => cases h; rfl
  | succ k ih =>
    have h' : (offO f s q k l).bind (takeO f s q k) = some l' := h
    obtain ⟨m, h1, h2⟩ := Option.bind_eq_some_iff.1 h'
    rw [take_len h2, ih h1]
/-- Division: quotient and remainder, from what there is. -/
def divO (q : List Rat) : Nat → List Rat → List Rat → Option (List Rat × List Rat)
  | 0, u, r => some (u, r)
  | n + 1, u, r =>
    if r.length < q.length then some (u, r)
    else (divQ (cf r (r.length - 1)) (cf q (q.length - 1))).bind fun f => (offO f (r.length - q.length) q (q.length - 1) r).bind fun r' => divO q n (u.set (r.length - q.length) f) (trimP (r'.take (r.length - 1)))
def byO (p q : List Rat) : Option (List Rat × List Rat) := if q = [] then none else divO q p.length (List.replicate (p.length + 1 - q.length) 0) p
def overO (p : List Rat) (c : Rat) : Option (List Rat) := tabO (fun i => divQ (cf p i) c) p.length
def monicO (p : List Rat) : Option (List Rat) := if p = [] then some [] else overO p (cf p (p.length - 1))
/-- A monic greatest common divisor. -/
def gcdO : Nat → List Rat → List Rat → Option (List Rat)
  | 0, p, _ => monicO p
  | n + 1, p, q => if q = [] then monicO p else (byO p q).bind fun d => (monicO d.2).bind fun m => gcdO n q m
def derivO (p : List Rat) : Option (List Rat) := tabO (fun i => mulQ ((i + 1 : Nat) : Rat) (cf p (i + 1))) (p.length - 1)
/-- The value, from the coefficient at the end on. -/
def evalO (x : Rat) : List Rat → Option Rat
  | [] => some 0
  | c :: l => (evalO x l).bind fun v => (mulQ v x).bind fun m => addQ m c

/-- A polynomial as package poly takes it. -/
def Vp (l : List Rat) : Prop := l.length ≤ 13 ∧ NT l ∧ ∀ i, fitQ (cf l i)

/-- A fraction with a numerator of at most N over D. -/
def bd (D N : Nat) (c : Rat) : Prop := ∃ z : Int, z.natAbs ≤ N ∧ c * (D : Rat) = (z : Rat)
theorem bd.mono {D N M : Nat} {c : Rat} (h : bd D N c) (hm : N ≤ M) : bd D M c := let ⟨z, h1, h2⟩ := h; ⟨z, by omega, h2⟩
theorem bd.zero (D N : Nat) : bd D N 0 := ⟨0, by simp, by grind⟩
theorem bd.add {D N M : Nat} {a b : Rat} (h : bd D N a) (k : bd D M b) : bd D (N + M) (a + b) := by
  obtain ⟨z, h1, h2⟩ := h
  obtain ⟨y, h3, h4⟩ := k
  exact ⟨z + y, by omega, by rw [Rat.intCast_add]; grind⟩
theorem bd.sub {D N M : Nat} {a b : Rat} (h : bd D N a) (k : bd D M b) : bd D (N + M) (a - b) := by
  obtain ⟨z, h1, h2⟩ := h
  obtain ⟨y, h3, h4⟩ := k
  exact ⟨z - y, by omega, by rw [Rat.intCast_sub]; grind⟩
theorem bd.mul {D N E M : Nat} {a b : Rat} (h : bd D N a) (k : bd E M b) : bd (D * E) (N * M) (a * b) := by
  obtain ⟨z, h1, h2⟩ := h
  obtain ⟨y, h3, h4⟩ := k
  refine ⟨z * y, by rw [Int.natAbs_mul]; exact Nat.mul_le_mul h1 h3, ?_⟩
  rw [Rat.intCast_mul, Rat.natCast_mul]; grind
theorem bd.limK {D N k : Nat} {c : Rat} (h : bd D N c) (h0 : 0 < D) (hD : D < 10 ^ k) (hN : N < 10 ^ k) : lim k c := by
  obtain ⟨z, h1, h2⟩ := h
  have hd : (D : Rat) ≠ 0 := by
    intro e
    have : D = 0 := by exact_mod_cast e
    omega
  have e : c = Rat.divInt z (D : Int) := by
    rw [Rat.divInt_eq_div, ← h2]
    have : ((D : Int) : Rat) = (D : Rat) := rfl
    rw [this]; grind
  rw [e]
  exact lim_divInt (by omega) (by omega) (by omega)

end Go.Proofs.YtffndcjmabjhiaaGreatDoor

namespace Go.Proofs.YtffndcjmabjhiaaGreatDoor
open Num

theorem bd.scale {D N : Nat} {c : Rat} (h : bd D N c) (k : Nat) : bd (D * k) (N * k) c := by
  obtain ⟨z, h1, h2⟩ := h
  refine ⟨z * k, by rw [Int.natAbs_mul, Int.natAbs_natCast]; exact Nat.mul_le_mul_right _ h1, ?_⟩
  rw [Rat.intCast_mul, Rat.natCast_mul]
  have : ((k : Int) : Rat) = (k : Rat) := rfl
  rw [this]; grind
theorem mul_ok {p q : Rat} (hp : lim 90 p) (hq : lim 90 q) : mulQ p q = some (p * q) := mul_lim hp hq (by decide)
theorem add_ok {p q : Rat} (hp : lim 90 p) (hq : lim 90 q) : addQ p q = some (p + q) := add_lim hp hq (by decide)
theorem sub_ok {p q : Rat} (hp : lim 90 p) (hq : lim 90 q) : subQ p q = some (p - q) := sub_lim hp hq (by decide)
theorem quo_ok {p q : Rat} (hp : lim 90 p) (hq : lim 90 q) (h : q ≠ 0) : divQ p q = some (p / q) := div_lim hp hq (by decide) h
/-- All coefficients of a list are of one kind. -/
def bdL (D N : Nat) (l : List Rat) : Prop := ∀ i, bd D N (cf l i)
/-- Numbers that are small enough for products. -/
def Lo (N : Nat) : Prop := N < 10 ^ 90
instance (N : Nat) : Decidable (Lo N) := inferInstanceAs (Decidable (N < 10 ^ 90))
theorem bd.lim90 {D N : Nat} {c : Rat} (h : bd D N c) (h0 : 0 < D) (hD : Lo D) (hN : Lo N) : lim 90 c := h.limK h0 hD hN

theorem comb_add {D N M : Nat} {p q : List Rat} (hp : bdL D N p) (hq : bdL D M q) (h0 : 0 < D) (hD : Lo D) (hN : Lo N) (hM : Lo M) :
    ∃ r, combO addQ p q = some r ∧ NT r ∧ r.length ≤ max p.length q.length ∧ (∀ i, cf r i = cf p i + cf q i) ∧ bdL D (N + M) r := by
  obtain ⟨l, h1, h2, h3⟩ := tab_all (g := fun i => addQ (cf p i) (cf q i)) (n := max p.length q.length) (fun i => cf p i + cf q i) (fun i _ => add_ok ((hp i).lim90 h0 hD hN) ((hq i).lim90 h0 hD hM))
  have hc : ∀ i, cf (trimP l) i = cf p i + cf q i := fun i => by
    rw [trim_cf]
    by_cases hi : i < max p.length q.length
    · exact h3 i hi
    · rw [cf_past (l := l) (by omega), cf_past (l := p) (by omega), cf_past (l := q) (by omega)]; grind
  refine ⟨trimP l, by unfold combO; rw [h1]; rfl, trim_NT l, by have := trim_len l; omega, hc, fun i => ?_⟩
  rw [hc]; exact (hp i).add (hq i)
theorem comb_sub {D N M : Nat} {p q : List Rat} (hp : bdL D N p) (hq : bdL D M q) (h0 : 0 < D) (hD : Lo D) (hN : Lo N) (hM : Lo M) :
    ∃ r, combO subQ p q = some r ∧ NT r ∧ r.length ≤ max p.length q.length ∧ (∀ i, cf r i = cf p i - cf q i) ∧ bdL D (N + M) r := by
  obtain ⟨l, h1, h2, h3⟩ := tab_all (g := fun i => subQ (cf p i) (cf q i)) (n := max p.length q.length) (fun i => cf p i - cf q i) (fun i _ => sub_ok ((hp i).lim90 h0 hD hN) ((hq i).lim90 h0 hD hM))
  have hc : ∀ i, cf (trimP l) i = cf p i - cf q i := fun i => by
    rw [trim_cf]
    by_cases hi : i < max p.length q.length
    · exact h3 i hi
    · rw [cf_past (l := l) (by omega), cf_past (l := p) (by omega), cf_past (l := q) (by omega)]; grind
  refine ⟨trimP l, by unfold combO; rw [h1]; rfl, trim_NT l, by have := trim_len l; omega, hc, fun i => ?_⟩
  rw [hc]; exact (hp i).sub (hq i)

/-- The coefficient of a product, from the first i coefficients of the first factor. -/
def part (P Q : Nat → Rat) (i j : Nat) : Rat := sumN (fun t => if t ≤ j then P t * Q (j - t) else 0) i
theorem part_conv {p q : List Rat} (j : Nat) : part (cf p) (cf q) p.length j = conv (cf p) (cf q) j := by
  unfold part conv
  have e1 : sumN (fun i => cf p i * cf q (j - i)) (j + 1) = sumN (fun t => if t ≤ j then cf p t * cf q (j - t) else 0) (j + 1) := sumN_congr fun i hi => by rw [if_pos (by omega)]
  rw [e1, ← sumN_more (fun t => if t ≤ j then cf p t * cf q (j - t) else 0) (Nat.le_max_left p.length (j + 1)), ← sumN_more (fun t => if t ≤ j then cf p t * cf q (j - t) else 0) (Nat.le_max_right p.length (j + 1))]
  · intro i h1 _; rw [if_neg (by omega)]
  · intro i h1 _; rw [cf_past h1]; split <;> grind
theorem part_bd {D N E M : Nat} {P Q : Nat → Rat} (hP : ∀ i, bd D N (P i)) (hQ : ∀ i, bd E M (Q i)) (i j : Nat) : bd (D * E) (i * (N * M)) (part P Q i j) := by
  induction i with
  | zero => exact bd.zero _ _
  | succ i ih =>
    have e : part P Q (i + 1) j = part P Q i j + (if i ≤ j then P i * Q (j - i) else 0) := rfl
    rw [e, Nat.succ_mul]
    refine ih.add ?_
    split
    · exact (hP i).mul (hQ (j - i))
    · exact bd.zero _ _
theorem row_ok {D N E M i : Nat} {p q l : List Rat} (hp : bdL D N p) (hq : bdL E M q) (h0 : 0 < D) (h1 : 0 < E) (hD : Lo (D * E)) (hN : Lo ((i + 1) * (N * M))) (hlD : Lo D) (hlE : Lo E) (hlN : Lo N) (hlM : Lo M)
    (hi : i < p.length) (hl : l.length = p.length + q.length - 1) (hc : ∀ j, cf l j = part (cf p) (cf q) i j) (k : Nat) (hk : k ≤ q.length) :
    ∃ l', rowO (cf p i) i q k l = some l' ∧ l'.length = l.length ∧ ∀ j, cf l' j = part (cf p) (cf q) i j + (if i ≤ j ∧ j < i + k then cf p i * cf q (j - i) else 0) := by
  induction k with
  | zero => exact ⟨l, rfl, rfl, fun j => by rw [if_neg (by omega), hc]; grind⟩
  | succ k ih =>
    obtain ⟨l', h2, h3, h4⟩ := ih (by omega)
    have hDE : 0 < D * E := Nat.mul_pos h0 h1
    have hlk : cf l' (i + k) = part (cf p) (cf q) i (i + k) := by rw [h4, if_neg (by omega)]; grind
    have hNM : Lo (N * M) := Nat.lt_of_le_of_lt (Nat.le_mul_of_pos_left _ (by omega)) hN
    have hiN : Lo (i * (N * M)) := Nat.lt_of_le_of_lt (Nat.mul_le_mul_right _ (by omega)) hN
    have m1 : mulQ (cf p i) (cf q k) = some (cf p i * cf q k) := mul_ok ((hp i).lim90 h0 hlD hlN) ((hq k).lim90 h1 hlE hlM)
    have m2 : addQ (cf l' (i + k)) (cf p i * cf q k) = some (cf l' (i + k) + cf p i * cf q k) := by
      rw [hlk]
      exact add_ok ((part_bd hp hq i (i + k)).lim90 hDE hD hiN) (((hp i).mul (hq k)).lim90 hDE hD hNM)
    refine ⟨l'.set (i + k) (cf l' (i + k) + cf p i * cf q k), ?_, by rw [List.length_set, h3], fun j => ?_⟩
    · rw [row_step h2]; unfold stepO; rw [m1]; show (addQ _ _).bind _ = _; rw [m2]; rfl
    · rw [cf_set _ _ _ (by omega)]
      by_cases e : j = i + k
      · subst e; rw [if_pos rfl, if_pos ⟨by omega, by omega⟩, hlk, show i + k - i = k by omega]
      · rw [if_neg e, h4]
        by_cases c : i ≤ j ∧ j < i + k
        · rw [if_pos c, if_pos (by omega)]
        · rw [if_neg c, if_neg (by omega)]
theorem rows_ok {D N E M : Nat} {p q : List Rat} (hp : bdL D N p) (hq : bdL E M q) (h0 : 0 < D) (h1 : 0 < E) (hD : Lo (D * E)) (hN : Lo (p.length * (N * M))) (hlD : Lo D) (hlE : Lo E) (hlN : Lo N) (hlM : Lo M) (i : Nat) (hi : i ≤ p.length) :
    ∃ l, rowsO p q i = some l ∧ l.length = p.length + q.length - 1 ∧ ∀ j, cf l j = part (cf p) (cf q) i j := by
  induction i with
  | zero => exact ⟨_, rfl, by simp, fun j => by rw [cf_replicate]; rfl⟩
  | succ i ih =>
    obtain ⟨l, h2, h3, h4⟩ := ih (by omega)
    obtain ⟨l', h5, h6, h7⟩ := row_ok hp hq h0 h1 hD (Nat.lt_of_le_of_lt (Nat.mul_le_mul_right _ hi) hN) hlD hlE hlN hlM (by omega) h3 h4 q.length (Nat.le_refl _)
    refine ⟨l', by rw [rows_step h2]; exact h5, by omega, fun j => ?_⟩
    rw [h7]
    have e : part (cf p) (cf q) (i + 1) j = part (cf p) (cf q) i j + (if i ≤ j then cf p i * cf q (j - i) else 0) := rfl
    rw [e]
    by_cases c : i ≤ j
    · rw [if_pos c]
      by_cases c2 : j < i + q.length
      · rw [if_pos ⟨c, c2⟩]
      · rw [if_neg (by omega), cf_past (l := q) (i := j - i) (by omega)]; grind
    · rw [if_neg c, if_neg (by omega)]
theorem times_ok {D N E M : Nat} {p q : List Rat} (hp : bdL D N p) (hq : bdL E M q) (h0 : 0 < D) (h1 : 0 < E) (hD : Lo (D * E)) (hN : Lo (p.length * (N * M))) (hlD : Lo D) (hlE : Lo E) (hlN : Lo N) (hlM : Lo M) (hn : p.length + q.length ≤ 14) :
    ∃ r, timesO p q = some r ∧ NT r ∧ r.length ≤ p.length + q.length - 1 ∧ (∀ j, cf r j = conv (cf p) (cf q) j) ∧ bdL (D * E) (p.length * (N * M)) r := by
  by_cases he : p = [] ∨ q = []
  · have hz : ∀ j, conv (cf p) (cf q) j = 0 := fun j => sumN_zero fun i _ => by
      rcases he with e | e <;> rw [e, cf_nil] <;> grind
    refine ⟨[], by unfold timesO; rw [if_pos he], NT.nil, by simp, fun j => by rw [hz, cf_nil], fun i => ?_⟩
    rw [cf_nil]; exact bd.zero _ _
  · have hpl : 0 < p.length := List.length_pos_iff.2 fun e => he (Or.inl e)
    have hql : 0 < q.length := List.length_pos_iff.2 fun e => he (Or.inr e)
    obtain ⟨l, h2, h3, h4⟩ := rows_ok hp hq h0 h1 hD hN hlD hlE hlN hlM p.length (Nat.le_refl _)
    have hc : ∀ j, cf (trimP l) j = conv (cf p) (cf q) j := fun j => by rw [trim_cf, h4, part_conv]
    refine ⟨trimP l, by unfold timesO; rw [if_neg he, if_neg (by omega), h2]; rfl, trim_NT l, by have := trim_len l; omega, hc, fun j => ?_⟩
    rw [hc, ← part_conv]
    exact part_bd hp hq _ j

/-- The value. -/
theorem eval_ok {D N E M : Nat} {x : Rat} (hx : bd E M x) (h0 : 0 < D) (h1 : 0 < E) (hM : 0 < M) (l : List Rat) (hl : ∀ c ∈ l, bd D N c) (n : Nat) (hn : l.length ≤ n) (hD : Lo (D * E ^ n)) (hN : Lo ((n + 1) * (N * (M + E) ^ n))) (hlE : Lo E) (hlM : Lo M) :
    evalO x l = some (evP l x) ∧ bd (D * E ^ l.length) (l.length * (N * (M + E) ^ l.length)) (evP l x) := by
  induction l with
  | nil => exact ⟨rfl, bd.zero _ _⟩
  | cons c l ih =>
    obtain ⟨i1, i2⟩ := ih (fun c' hc' => hl c' (List.mem_cons_of_mem _ hc')) (by simp at hn; omega)
    have hlen : l.length + 1 ≤ n := by simpa using hn
    have hpw : ∀ k, k ≤ n → D * E ^ k ≤ D * E ^ n := fun k hk => Nat.mul_le_mul_left _ (Nat.pow_le_pow_right h1 hk)
    have hpos : ∀ k, 0 < D * E ^ k := fun k => Nat.mul_pos h0 (Nat.pow_pos h1)
    have hME : 0 < M + E := by omega
    have hb : ∀ k j, k ≤ n → j ≤ n + 1 → j * (N * (M + E) ^ k) ≤ (n + 1) * (N * (M + E) ^ n) := fun k j hk hj => Nat.mul_le_mul hj (Nat.mul_le_mul_left _ (Nat.pow_le_pow_right hME hk))
    have v1 := i2.mul hx
    have eD : D * E ^ l.length * E = D * E ^ (l.length + 1) := by rw [Nat.pow_succ]; exact Nat.mul_assoc _ _ _
    rw [eD] at v1
    have c1 : bd (D * E ^ (l.length + 1)) (N * E ^ (l.length + 1)) c := (hl c (List.mem_cons_self ..)).scale _
    have hm : l.length * (N * (M + E) ^ l.length) * M ≤ l.length * (N * (M + E) ^ (l.length + 1)) := by
      rw [Nat.mul_assoc, Nat.mul_assoc N, Nat.pow_succ]
      exact Nat.mul_le_mul_left _ (Nat.mul_le_mul_left _ (Nat.mul_le_mul_left _ (by omega)))
    have hc : N * E ^ (l.length + 1) ≤ N * (M + E) ^ (l.length + 1) := Nat.mul_le_mul_left _ (Nat.pow_le_pow_left (by omega) _)
    have v2 := v1.mono hm
    have c2 := c1.mono hc
    have s1 := v2.add c2
    have e2 : l.length * (N * (M + E) ^ (l.length + 1)) + N * (M + E) ^ (l.length + 1) = (l.length + 1) * (N * (M + E) ^ (l.length + 1)) := by rw [Nat.succ_mul]
    rw [e2] at s1
    have m1 : mulQ (evP l x) x = some (evP l x * x) := mul_ok (i2.lim90 (hpos _) (Nat.lt_of_le_of_lt (hpw _ (by omega)) hD) (Nat.lt_of_le_of_lt (hb _ _ (by omega) (by omega)) hN)) (hx.lim90 h1 hlE hlM)
    have m2 : addQ (evP l x * x) c = some (evP l x * x + c) := add_ok (v2.lim90 (hpos _) (Nat.lt_of_le_of_lt (hpw _ hlen) hD) (Nat.lt_of_le_of_lt (hb _ _ hlen (by omega)) hN))
      (c2.lim90 (hpos _) (Nat.lt_of_le_of_lt (hpw _ hlen) hD) (Nat.lt_of_le_of_lt (by have := hb (l.length + 1) 1 hlen (by omega); omega) hN))
    refine ⟨?_, s1⟩
    show (evalO x l).bind _ = _
    rw [i1]
    show (mulQ (evP l x) x).bind _ = _
    rw [m1]
    exact m2

end Go.Proofs.YtffndcjmabjhiaaGreatDoor

namespace Go.Proofs.YtffndcjmabjhiaaGreatDoor
open Num

theorem sumN_one (g : Nat → Rat) (s n : Nat) : sumN (fun i => if i = s then g i else 0) n = if s < n then g s else 0 := by
  induction n with
  | zero => rfl
  | succ n ih =>
    rw [sumN, ih]
    by_cases h : n = s
    · subst h; rw [if_neg (by omega), if_pos rfl, if_pos (by omega)]; grind
    · rw [if_neg h]
      by_cases k : s < n
      · rw [if_pos k, if_pos (by omega)]; grind
      · rw [if_neg k, if_neg (by omega)]; grind
theorem conv_set {u : List Rat} {s : Nat} (f : Rat) (Q : Nat → Rat) (h : s < u.length) (h0 : cf u s = 0) (j : Nat) :
    conv (cf (u.set s f)) Q j = conv (cf u) Q j + (if s ≤ j then f * Q (j - s) else 0) := by
  unfold conv
  have e : sumN (fun i => cf (u.set s f) i * Q (j - i)) (j + 1) = sumN (fun i => cf u i * Q (j - i) + (if i = s then f * Q (j - i) else 0)) (j + 1) := sumN_congr fun i _ => by
    rw [cf_set _ _ _ h]
    by_cases c : i = s
    · subst c; rw [if_pos rfl, if_pos rfl, h0]; grind
    · rw [if_neg c, if_neg c]; grind
  rw [e, sumN_add, sumN_one (fun i => f * Q (j - i))]
  by_cases c : s ≤ j
  · rw [if_pos c, if_pos (by omega)]
  · rw [if_neg c, if_neg (by omega)]
/-- The coefficient at the top of a product. -/
theorem conv_top {P Q : Nat → Rat} {t m : Nat} (hP : ∀ i, t < i → P i = 0) (hQ : ∀ i, m < i → Q i = 0) : conv P Q (t + m) = P t * Q m := by
  unfold conv
  have e : sumN (fun i => P i * Q (t + m - i)) (t + m + 1) = sumN (fun i => if i = t then P i * Q (t + m - i) else 0) (t + m + 1) := sumN_congr fun i hi => by
    by_cases c : i = t
    · rw [if_pos c]
    · rw [if_neg c]
      by_cases c2 : t < i
      · rw [hP i c2]; grind
      · rw [hQ (t + m - i) (by omega)]; grind
  rw [e, sumN_one (fun i => P i * Q (t + m - i)), if_pos (by omega), show t + m - t = m by omega]
theorem conv_zero {P Q : Nat → Rat} (hP : ∀ i, P i = 0) (j : Nat) : conv P Q j = 0 := sumN_zero fun i _ => by rw [hP]; grind
theorem conv_sub (P P' Q : Nat → Rat) (j : Nat) : conv (fun i => P i - P' i) Q j = conv P Q j - conv P' Q j := by
  have e := conv_add Q (fun i => P i - P' i) P' j
  have e2 : conv Q (fun i => P i - P' i + P' i) j = conv Q P j := conv_congr (fun _ => rfl) (fun i => by grind) j
  rw [e2] at e
  rw [conv_comm _ Q, conv_comm P Q, conv_comm P' Q]
  grind
/-- If a product has no coefficient from the divisor's degree on, the factor is zero. -/
theorem conv_low {Q : Nat → Rat} {m : Nat} (hQ : ∀ i, m < i → Q i = 0) (hm : Q m ≠ 0) (n : Nat) {P : Nat → Rat} (hP : ∀ i, n ≤ i → P i = 0) (h : ∀ j, m ≤ j → conv P Q j = 0) : ∀ i, P i = 0 := by
  induction n with
  | zero => exact fun i => hP i (Nat.zero_le _)
  | succ n ih =>
    refine ih fun i hi => ?_
    by_cases e : i = n
    · subst e
      have k := conv_top (P := P) (Q := Q) (t := i) (m := m) (fun t ht => hP t (by omega)) hQ
      rw [h _ (by omega)] at k
      rcases Rat.mul_eq_zero.1 k.symm with c | c
      · exact c
      · exact absurd c hm
    · exact hP i (by omega)
theorem div_unique {q u r u' r' : List Rat} (hq : q ≠ []) (hNT : NT q) (hr : r.length < q.length) (hr' : r'.length < q.length)
    (h : ∀ j, conv (cf u) (cf q) j + cf r j = conv (cf u') (cf q) j + cf r' j) : (∀ i, cf u i = cf u' i) ∧ ∀ i, cf r i = cf r' i := by
  have hql : 0 < q.length := List.length_pos_iff.2 hq
  have hd : ∀ i, cf u i - cf u' i = 0 := by
    refine conv_low (Q := cf q) (m := q.length - 1) (fun i hi => cf_past (by omega)) (hNT.lead hq) (max u.length u'.length) (fun i hi => ?_) (fun j hj => ?_)
    · rw [cf_past (l := u) (by omega), cf_past (l := u') (by omega)]; grind
    · rw [conv_sub]
      have := h j
      rw [cf_past (l := r) (by omega), cf_past (l := r') (by omega)] at this
      grind
  have he : ∀ i, cf u i = cf u' i := fun i => by have := hd i; grind
  refine ⟨he, fun i => ?_⟩
  have := h i
  rw [conv_congr he (fun _ => rfl)] at this
  grind

theorem off_ok {f : Rat} {s : Nat} {q r : List Rat} (k : Nat) (hk : s + k ≤ r.length) (h1 : ∀ i, mulQ f (cf q i) = some (f * cf q i)) (h2 : ∀ i j, subQ (cf r j) (f * cf q i) = some (cf r j - f * cf q i)) :
    ∃ r', offO f s q k r = some r' ∧ r'.length = r.length ∧ ∀ j, cf r' j = cf r j - (if s ≤ j ∧ j < s + k then f * cf q (j - s) else 0) := by
  induction k with
  | zero => exact ⟨r, rfl, rfl, fun j => by rw [if_neg (by omega)]; grind⟩
  | succ k ih =>
    obtain ⟨r', i1, i2, i3⟩ := ih (by omega)
    have hk' : cf r' (s + k) = cf r (s + k) := by rw [i3, if_neg (by omega)]; grind
    refine ⟨r'.set (s + k) (cf r (s + k) - f * cf q k), ?_, by rw [List.length_set, i2], fun j => ?_⟩
    · rw [off_step i1]; unfold takeO; rw [h1]; show (subQ _ _).bind _ = _; rw [hk', h2]; rfl
    · rw [cf_set _ _ _ (by omega)]
      by_cases e : j = s + k
      · subst e; rw [if_pos rfl, if_pos ⟨by omega, by omega⟩, show s + k - s = k by omega]
      · rw [if_neg e, i3]
        by_cases c : s ≤ j ∧ j < s + k
        · rw [if_pos c, if_pos (by omega)]
        · rw [if_neg c, if_neg (by omega)]
theorem cf_take (l : List Rat) (n i : Nat) : cf (l.take n) i = if i < n then cf l i else 0 := by
  unfold cf
  rw [List.getD_eq_getElem?_getD, List.getD_eq_getElem?_getD]
  by_cases h : i < n
  · rw [List.getElem?_take_of_lt h, if_pos h]
  · rw [if_neg h, List.getElem?_eq_none (by simp; omega)]; rfl

theorem div_ok {E M A : Nat} {q : List Rat} {a : Int} (hq : bdL E M q) (hE : 0 < E) (hne : q ≠ []) (ha : cf q (q.length - 1) * (E : Rat) = (a : Rat)) (ha0 : a ≠ 0) (haA : a.natAbs = A) (haM : A ≤ M) (hlE : Lo E) (hlM : Lo M)
    (n : Nat) : ∀ (D N : Nat) (u r : List Rat), r.length ≤ n → bdL D N r → 0 < D → Lo (D * A ^ n) → Lo (N * E * (2 * M) ^ n) → NT r → (∀ i, i + q.length ≤ r.length → cf u i = 0) → (q.length ≤ r.length → r.length - q.length < u.length) → bdL (D * A ^ n) (N * E * (2 * M) ^ n) u →
      ∃ u' r', divO q n u r = some (u', r') ∧ r'.length < q.length ∧ NT r' ∧ u'.length = u.length ∧ (∀ j, conv (cf u') (cf q) j + cf r' j = conv (cf u) (cf q) j + cf r j) ∧ bdL (D * A ^ n) (N * E * (2 * M) ^ n) u' ∧ bdL (D * A ^ n) (N * E * (2 * M) ^ n) r' := by
  have hql : 0 < q.length := List.length_pos_iff.2 hne
  have hA1 : 1 ≤ A := by omega
  have hM1 : 1 ≤ M := by omega
  have hl0 : cf q (q.length - 1) ≠ 0 := by
    intro c; rw [c] at ha
    have : ((a : Int) : Rat) = ((0 : Int) : Rat) := by rw [← ha]; grind
    exact ha0 (Rat.intCast_inj.1 this)
  have up : ∀ (D N : Nat) (n : Nat) {c : Rat}, bd D N c → bd (D * A ^ n) (N * E * (2 * M) ^ n) c := fun D N n c h => by
    refine (h.scale (A ^ n)).mono ?_
    calc N * A ^ n ≤ N * (2 * M) ^ n := Nat.mul_le_mul_left _ (Nat.pow_le_pow_left (by omega) _)
      _ = N * 1 * (2 * M) ^ n := by rw [Nat.mul_one]
      _ ≤ N * E * (2 * M) ^ n := Nat.mul_le_mul_right _ (Nat.mul_le_mul_left _ hE)
  induction n with
  | zero =>
    intro D N u r hn hr hD _ _ hNT _ _ hu
    refine ⟨u, r, rfl, by omega, hNT, rfl, fun _ => rfl, hu, fun i => up D N 0 (hr i)⟩
  | succ n ih =>
    intro D N u r hn hr hD hlD hlN hNT hz hlen hu
    by_cases hlt : r.length < q.length
    · exact ⟨u, r, by show (if _ then _ else _) = _; rw [if_pos hlt], hlt, hNT, rfl, fun _ => rfl, hu, fun i => up D N (n + 1) (hr i)⟩
    · have hs := hlen (by omega)
      have eD : D * A * A ^ n = D * A ^ (n + 1) := by rw [Nat.pow_succ, Nat.mul_comm (A ^ n), Nat.mul_assoc]
      have eN : 2 * N * M * E * (2 * M) ^ n = N * E * (2 * M) ^ (n + 1) := by rw [Nat.pow_succ]; simp only [Nat.mul_comm, Nat.mul_left_comm, Nat.mul_assoc]
      have pA : ∀ k, 1 ≤ A ^ k := fun k => Nat.pow_pos hA1
      have pM : ∀ k, 1 ≤ (2 * M) ^ k := fun k => Nat.pow_pos (by omega)
      have lD : Lo D := Nat.lt_of_le_of_lt (Nat.le_mul_of_pos_right _ (pA _)) hlD
      have lDA : Lo (D * A) := by rw [← eD] at hlD; exact Nat.lt_of_le_of_lt (Nat.le_mul_of_pos_right _ (pA _)) hlD
      have lNE : Lo (N * E) := Nat.lt_of_le_of_lt (Nat.le_mul_of_pos_right _ (pM _)) hlN
      have lN : Lo N := Nat.lt_of_le_of_lt (Nat.le_mul_of_pos_right _ hE) lNE
      have lNM : Lo (N * M) := by
        refine Nat.lt_of_le_of_lt ?_ hlN
        calc N * M ≤ N * (2 * M) := Nat.mul_le_mul_left _ (by omega)
          _ = N * 1 * (2 * M) ^ 1 := by rw [Nat.mul_one, Nat.pow_one]
          _ ≤ N * E * (2 * M) ^ (n + 1) := Nat.mul_le_mul (Nat.mul_le_mul_left _ hE) (Nat.pow_le_pow_right (by omega) (by omega))
      have hDA : 0 < D * A := Nat.mul_pos hD hA1
      obtain ⟨z, hz1, hz2⟩ := hr (r.length - 1)
      have hEr : (E : Rat) ≠ 0 := by
        intro e
        have : E = 0 := by exact_mod_cast e
        omega
      have hf0 : divQ (cf r (r.length - 1)) (cf q (q.length - 1)) = some (cf r (r.length - 1) / cf q (q.length - 1)) := quo_ok ((hr _).lim90 hD lD lN) ((hq _).lim90 hE hlE hlM) hl0
      generalize hf : cf r (r.length - 1) / cf q (q.length - 1) = f at *
      have hfl : f * cf q (q.length - 1) = cf r (r.length - 1) := by rw [← hf]; grind
      -- the factor
      have hAr : ∃ e : Int, (e = 1 ∨ e = -1) ∧ ((A : Nat) : Rat) = (e : Rat) * (a : Rat) := by
        by_cases c : 0 ≤ a
        · exact ⟨1, Or.inl rfl, by
            have h1 : ((A : Nat) : Int) = a := by omega
            have h2 : ((A : Nat) : Rat) = ((a : Int) : Rat) := by rw [← h1]; rfl
            rw [h2]; grind⟩
        · exact ⟨-1, Or.inr rfl, by
            have h1 : ((A : Nat) : Int) = -a := by omega
            have h2 : ((A : Nat) : Rat) = ((-a : Int) : Rat) := by rw [← h1]; rfl
            rw [h2, Rat.intCast_neg, Rat.intCast_neg]; grind⟩
      obtain ⟨e, he, hAe⟩ := hAr
      have hfz : f * (a : Rat) * (D : Rat) = (z : Rat) * (E : Rat) := by rw [← ha, ← hz2, ← hfl]; grind
      have bf : bd (D * A) (N * E) f := by
        refine ⟨e * (z * E), ?_, ?_⟩
        · rw [Int.natAbs_mul, Int.natAbs_mul, Int.natAbs_natCast]
          have : e.natAbs = 1 := by rcases he with c | c <;> rw [c] <;> rfl
          rw [this, Nat.one_mul]; exact Nat.mul_le_mul_right _ hz1
        · rw [Rat.natCast_mul, hAe, Rat.intCast_mul, Rat.intCast_mul]
          have : ((E : Int) : Rat) = (E : Rat) := rfl
          rw [this, ← hfz]; grind
      have bfc : ∀ i, bd (D * A) (N * M) (f * cf q i) := fun i => by
        obtain ⟨c, hc1, hc2⟩ := hq i
        refine ⟨e * (z * c), ?_, ?_⟩
        · rw [Int.natAbs_mul, Int.natAbs_mul]
          have : e.natAbs = 1 := by rcases he with c | c <;> rw [c] <;> rfl
          rw [this, Nat.one_mul]; exact Nat.mul_le_mul hz1 hc1
        · rw [Rat.natCast_mul, hAe, Rat.intCast_mul, Rat.intCast_mul]
          have h3 : f * cf q i * ((D : Rat) * ((e : Rat) * (a : Rat))) * (E : Rat) = (e : Rat) * ((z : Rat) * (c : Rat)) * (E : Rat) := by
            rw [← hc2]
            have : f * cf q i * ((D : Rat) * ((e : Rat) * (a : Rat))) * (E : Rat) = (e : Rat) * cf q i * (f * (a : Rat) * (D : Rat)) * (E : Rat) := by grind
            rw [this, hfz]; grind
          have h4 : ∀ x y : Rat, x * (E : Rat) = y * (E : Rat) → x = y := fun x y h => by
            have : (x - y) * (E : Rat) = 0 := by grind
            rcases Rat.mul_eq_zero.1 this with k | k
            · grind
            · exact absurd k hEr
          exact h4 _ _ h3
      have brD : ∀ j, bd (D * A) (N * M) (cf r j) := fun j => ((hr j).scale A).mono (Nat.mul_le_mul_left _ haM)
      obtain ⟨r', o1, o2, o3⟩ := off_ok (f := f) (s := r.length - q.length) (q := q) (r := r) (q.length - 1) (by omega)
        (fun i => mul_ok (bf.lim90 hDA lDA lNE) ((hq i).lim90 hE hlE hlM)) (fun i j => sub_ok ((brD j).lim90 hDA lDA lNM) ((bfc i).lim90 hDA lDA lNM))
      have hc1 : ∀ j, cf (trimP (r'.take (r.length - 1))) j = cf r j - (if r.length - q.length ≤ j then f * cf q (j - (r.length - q.length)) else 0) := fun j => by
        rw [trim_cf, cf_take]
        by_cases c : j < r.length - 1
        · rw [if_pos c, o3]
          by_cases c2 : r.length - q.length ≤ j
          · rw [if_pos ⟨c2, by omega⟩, if_pos c2]
          · rw [if_neg (fun k => c2 k.1), if_neg c2]
        · rw [if_neg c]
          by_cases c2 : j = r.length - 1
          · subst c2
            rw [if_pos (by omega), show r.length - 1 - (r.length - q.length) = q.length - 1 by omega, hfl]; grind
          · rw [cf_past (l := r) (by omega), if_pos (by omega), cf_past (l := q) (by omega)]; grind
      have htl : (trimP (r'.take (r.length - 1))).length ≤ r.length - 1 := by
        have := trim_len (r'.take (r.length - 1))
        have h2 : (r'.take (r.length - 1)).length ≤ r.length - 1 := by simp; omega
        omega
      have br2 : bdL (D * A) (2 * N * M) (trimP (r'.take (r.length - 1))) := fun j => by
        rw [hc1, show 2 * N * M = N * M + N * M by rw [Nat.mul_assoc, Nat.two_mul]]
        refine (brD j).sub ?_
        split
        · exact bfc _
        · exact bd.zero _ _
      have hu2 : bdL (D * A * A ^ n) (2 * N * M * E * (2 * M) ^ n) (u.set (r.length - q.length) f) := fun i => by
        rw [cf_set _ _ _ hs]
        split
        · rw [eN]
          refine (bf.scale (A ^ n)).mono ?_
          calc N * E * A ^ n ≤ N * E * (2 * M) ^ n := Nat.mul_le_mul_left _ (Nat.pow_le_pow_left (by omega) _)
            _ ≤ N * E * (2 * M) ^ (n + 1) := Nat.mul_le_mul_left _ (Nat.pow_le_pow_right (by omega) (by omega))
        · rw [eD, eN]; exact hu i
      obtain ⟨u', r2, k1, k2, k3, k4, k5, k6, k7⟩ := ih (D * A) (2 * N * M) (u.set (r.length - q.length) f) (trimP (r'.take (r.length - 1))) (by omega) br2 hDA (by rw [eD]; exact hlD) (by rw [eN]; exact hlN) (trim_NT _)
        (fun i hi => by rw [cf_set _ _ _ hs, if_neg (by omega)]; exact hz i (by omega)) (fun h => by rw [List.length_set]; omega) hu2
      rw [eD, eN] at k6 k7
      refine ⟨u', r2, ?_, k2, k3, by rw [k4, List.length_set], fun j => ?_, k6, k7⟩
      · show (if _ then _ else _) = _
        rw [if_neg hlt, hf0]
        show (offO f _ _ _ _).bind _ = _
        rw [o1]; exact k1
      · rw [k5, hc1, conv_set f (cf q) hs (hz _ (by omega))]; grind

/-- Division by a polynomial that is not zero. -/
theorem by_ok {D N E M : Nat} {p q : List Rat} (hp : bdL D N p) (hq : bdL E M q) (hD : 0 < D) (hE : 0 < E) (hne : q ≠ []) (hNTq : NT q) (hNTp : NT p) (hlE : Lo E) (hlM : Lo M) (hlD : Lo (D * M ^ p.length)) (hlN : Lo (N * E * (2 * M) ^ p.length)) :
    ∃ u r A, byO p q = some (u, r) ∧ 0 < A ∧ A ≤ M ∧ NT u ∧ NT r ∧ r.length < q.length ∧ u.length = p.length + 1 - q.length ∧ (∀ j, conv (cf u) (cf q) j + cf r j = cf p j) ∧ bdL (D * A ^ p.length) (N * E * (2 * M) ^ p.length) u ∧ bdL (D * A ^ p.length) (N * E * (2 * M) ^ p.length) r := by
  have hql : 0 < q.length := List.length_pos_iff.2 hne
  obtain ⟨a, h1, h2⟩ := hq (q.length - 1)
  have ha0 : a ≠ 0 := by
    intro c; rw [c] at h2
    have hEr : (E : Rat) ≠ 0 := by
      intro e
      have : E = 0 := by exact_mod_cast e
      omega
    rcases Rat.mul_eq_zero.1 (h2.trans (by rfl)) with k | k
    · exact hNTq.lead hne k
    · exact hEr k
  obtain ⟨u, r, k1, k2, k3, k4, k5, k6, k7⟩ := div_ok hq hE hne h2 ha0 rfl h1 hlE hlM p.length D N (List.replicate (p.length + 1 - q.length) 0) p (Nat.le_refl _) hp hD
    (Nat.lt_of_le_of_lt (Nat.mul_le_mul_left _ (Nat.pow_le_pow_left h1 _)) hlD) hlN hNTp (fun i _ => cf_replicate _ _) (fun h => by simp; omega) (fun i => by rw [cf_replicate]; exact bd.zero _ _)
  have hconv : ∀ j, conv (cf u) (cf q) j + cf r j = cf p j := fun j => by rw [k5, conv_zero (fun i => cf_replicate _ _)]; grind
  have hul : u.length = p.length + 1 - q.length := by rw [k4]; simp
  refine ⟨u, r, a.natAbs, by unfold byO; rw [if_neg hne]; exact k1, by omega, h1, ?_, k3, k2, hul, hconv, k6, k7⟩
  by_cases hu : u = []
  · exact Or.inl hu
  · refine Or.inr fun c => ?_
    have hup : 0 < u.length := List.length_pos_iff.2 hu
    have t := conv_top (P := cf u) (Q := cf q) (t := u.length - 1) (m := q.length - 1) (fun i hi => cf_past (by omega)) (fun i hi => cf_past (by omega))
    have e := hconv (u.length - 1 + (q.length - 1))
    rw [t, c, cf_past (l := r) (by omega)] at e
    have hpne : p ≠ [] := fun k => by rw [k] at hul; simp at hul; omega
    have := hNTp.lead hpne
    rw [show p.length - 1 = u.length - 1 + (q.length - 1) by omega, ← e] at this
    exact this (by grind)

end Go.Proofs.YtffndcjmabjhiaaGreatDoor

namespace Go.Proofs.YtffndcjmabjhiaaGreatDoor
open Num

/-- The coefficients of a derivative. -/
def dcf (P : Nat → Rat) (i : Nat) : Rat := ((i + 1 : Nat) : Rat) * P (i + 1)
theorem deriv_ok {D N : Nat} {p : List Rat} (hp : bdL D N p) (hD : 0 < D) (hNT : NT p) (hl : p.length ≤ 13) (hlD : Lo D) (hlN : Lo (13 * N)) :
    ∃ d, derivO p = some d ∧ NT d ∧ d.length = p.length - 1 ∧ (∀ i, cf d i = dcf (cf p) i) ∧ bdL D (13 * N) d := by
  have lN : Lo N := Nat.lt_of_le_of_lt (by omega) hlN
  have hi : ∀ i, i < p.length - 1 → bd 1 13 (((i + 1 : Nat) : Rat)) := fun i h => ⟨((i + 1 : Nat) : Int), by omega, by
    have : (((i + 1 : Nat) : Int) : Rat) = ((i + 1 : Nat) : Rat) := rfl
    rw [this]; grind⟩
  obtain ⟨d, h1, h2, h3⟩ := tab_all (g := fun i => mulQ ((i + 1 : Nat) : Rat) (cf p (i + 1))) (n := p.length - 1) (fun i => dcf (cf p) i)
    (fun i h => mul_ok ((hi i h).lim90 (by decide) (by decide) (by decide)) ((hp _).lim90 hD hlD lN))
  have hc : ∀ i, cf d i = dcf (cf p) i := fun i => by
    by_cases h : i < p.length - 1
    · exact h3 i h
    · rw [cf_past (l := d) (by omega)]; unfold dcf; rw [cf_past (l := p) (by omega)]; grind
  refine ⟨d, h1, ?_, h2, hc, fun i => ?_⟩
  · by_cases h : d = []
    · exact Or.inl h
    · refine Or.inr fun c => ?_
      have hp0 : 0 < d.length := List.length_pos_iff.2 h
      rw [hc] at c
      unfold dcf at c
      rcases Rat.mul_eq_zero.1 c with k | k
      · have : d.length - 1 + 1 = 0 := by exact_mod_cast k
        omega
      · rw [show d.length - 1 + 1 = p.length - 1 by omega] at k
        exact hNT.lead (List.ne_nil_of_length_pos (by omega)) k
  · by_cases h : i < p.length - 1
    · rw [hc]
      have := (hi i h).mul (hp (i + 1))
      rwa [Nat.one_mul] at this
    · rw [cf_past (l := d) (by omega)]; exact bd.zero _ _
theorem dcf_conv (P Q : Nat → Rat) (j : Nat) : dcf (conv P Q) j = conv (dcf P) Q j + conv P (dcf Q) j := by
  have e1 : dcf (conv P Q) j = sumN (fun i => (i : Rat) * P i * Q (j + 1 - i) + P i * (((j + 1 - i : Nat) : Rat) * Q (j + 1 - i))) (j + 1 + 1) := by
    unfold dcf conv
    rw [← sumN_mul]
    refine sumN_congr fun i hi => ?_
    have : ((j + 1 : Nat) : Rat) = (i : Rat) + ((j + 1 - i : Nat) : Rat) := by
      rw [← Rat.natCast_add]; congr 1; omega
    rw [this]; grind
  rw [e1, sumN_add]
  have e2 : sumN (fun i => (i : Rat) * P i * Q (j + 1 - i)) (j + 1 + 1) = conv (dcf P) Q j := by
    rw [sumN_left]
    have : ((0 : Nat) : Rat) = 0 := rfl
    rw [this]
    unfold conv
    have e3 : sumN (fun i => ((i + 1 : Nat) : Rat) * P (i + 1) * Q (j + 1 - (i + 1))) (j + 1) = sumN (fun i => dcf P i * Q (j - i)) (j + 1) := sumN_congr fun i hi => by
      rw [show j + 1 - (i + 1) = j - i by omega]; rfl
    rw [e3]; grind
  have e4 : sumN (fun i => P i * (((j + 1 - i : Nat) : Rat) * Q (j + 1 - i))) (j + 1 + 1) = conv P (dcf Q) j := by
    rw [sumN]
    have : ((j + 1 - (j + 1) : Nat) : Rat) = 0 := by rw [show j + 1 - (j + 1) = 0 by omega]; rfl
    rw [this]
    unfold conv
    have e3 : sumN (fun i => P i * (((j + 1 - i : Nat) : Rat) * Q (j + 1 - i))) (j + 1) = sumN (fun i => P i * dcf Q (j - i)) (j + 1) := sumN_congr fun i hi => by
      unfold dcf; rw [show j + 1 - i = j - i + 1 by omega]
    rw [e3]; grind
  rw [e2, e4]

/-- What the division by x - v leaves out of a polynomial. -/
def syn (v : Rat) : List Rat → List Rat
  | [] => []
  | _ :: l => evP l v :: syn v l
theorem conv_lin (v : Rat) (P : Nat → Rat) (j : Nat) : conv P (cf [-v, 1]) j = (if 0 < j then P (j - 1) else 0) - v * P j := by
  rw [conv_comm]
  unfold conv
  cases j with
  | zero => show (0 : Rat) + cf [-v, 1] 0 * P (0 - 0) = _; rw [cf_zero, if_neg (by omega)]; grind
  | succ j =>
    rw [sumN_left, sumN_left]
    have : sumN (fun i => cf [-v, 1] (i + 1 + 1) * P (j + 1 - (i + 1 + 1))) j = 0 := sumN_zero fun i _ => by rw [cf_succ, cf_succ, cf_nil]; grind
    rw [this, cf_zero, cf_succ, cf_zero, if_pos (by omega), show j + 1 - (0 + 1) = j + 1 - 1 by omega, show j + 1 - 0 = j + 1 by omega]; grind
theorem syn_eq (v : Rat) (p : List Rat) (j : Nat) : cf p j = conv (cf (syn v p)) (cf [-v, 1]) j + cf [evP p v] j := by
  induction p generalizing j with
  | nil => rw [conv_zero (fun i => by show cf [] i = 0; rfl)]; cases j with
    | zero => show (0 : Rat) = 0 + 0; grind
    | succ j => show (0 : Rat) = 0 + cf [] j; rw [cf_nil]; grind
  | cons c l ih =>
    rw [conv_lin]
    cases j with
    | zero => show c = (if 0 < 0 then _ else 0) - v * (evP l v) + (evP l v * v + c); rw [if_neg (by omega)]; grind
    | succ j =>
      rw [if_pos (by omega), cf_succ, cf_succ, show j + 1 - 1 = j by omega, cf_nil]
      rw [ih j, conv_lin]
      show (if 0 < j then cf (syn v l) (j - 1) else 0) - v * cf (syn v l) j + cf [evP l v] j = cf (evP l v :: syn v l) j - v * cf (syn v l) j + 0
      cases j with
      | zero => rw [if_neg (by omega), cf_zero, cf_zero]; grind
      | succ j => rw [if_pos (by omega), cf_succ, cf_succ, cf_nil, show j + 1 - 1 = j by omega]
/-- The value of the derivative. -/
theorem syn_ev (v : Rat) (p : List Rat) : evP (syn v p) v = sumN (fun i => dcf (cf p) i * pwR v i) p.length := by
  induction p with
  | nil => rfl
  | cons c l ih =>
    show evP (syn v l) v * v + evP l v = _
    rw [ih, evP_sum]
    have e : sumN (fun i => dcf (cf (c :: l)) i * pwR v i) (c :: l).length = sumN (fun i => (i : Rat) * cf l i * pwR v i + cf l i * pwR v i) (l.length + 1) := sumN_congr fun i _ => by
      unfold dcf; rw [cf_succ, Rat.natCast_add]; show _ = _; have : ((1 : Nat) : Rat) = 1 := rfl; rw [this]; grind
    rw [e, sumN_add]
    have e1 : sumN (fun i => cf l i * pwR v i) (l.length + 1) = sumN (fun i => cf l i * pwR v i) l.length := by rw [sumN, cf_past (l := l) (Nat.le_refl _)]; grind
    have e2 : sumN (fun i => (i : Rat) * cf l i * pwR v i) (l.length + 1) = sumN (fun i => dcf (cf l) i * pwR v i) l.length * v := by
      rw [sumN_left, ← sumN_mulr]
      have : ((0 : Nat) : Rat) = 0 := rfl
      rw [this]
      have e3 : sumN (fun i => ((i + 1 : Nat) : Rat) * cf l (i + 1) * pwR v (i + 1)) l.length = sumN (fun i => dcf (cf l) i * pwR v i * v) l.length := sumN_congr fun i _ => by
        unfold dcf; show _ * (pwR v i * v) = _; grind
      rw [e3]; grind
    rw [e1, e2]
theorem deriv_ev {p d : List Rat} (h : ∀ i, cf d i = dcf (cf p) i) (v : Rat) : evP d v = evP (syn v p) v := by
  rw [syn_ev, evP_any (Nat.le_max_left d.length p.length), ← sumN_more (fun i => dcf (cf p) i * pwR v i) (Nat.le_max_right d.length p.length)]
  · exact sumN_congr fun i _ => by rw [h]
  · intro i h1 _
    unfold dcf; rw [cf_past (l := p) (by omega)]; grind
/-- Taylor's theorem, of two terms. -/
theorem taylor {p d sq : List Rat} (v : Rat) (h : ∀ i, cf d i = dcf (cf p) i) (hs : ∀ j, cf sq j = conv (cf [-v, 1]) (cf [-v, 1]) j) (j : Nat) :
    cf p j = conv (cf (syn v (syn v p))) (cf sq) j + cf [evP p v + evP d v * (-v), evP d v] j := by
  have e1 := syn_eq v p j
  have e2 : conv (cf (syn v p)) (cf [-v, 1]) j = conv (fun i => conv (cf (syn v (syn v p))) (cf [-v, 1]) i + cf [evP (syn v p) v] i) (cf [-v, 1]) j := conv_congr (syn_eq v (syn v p)) (fun _ => rfl) j
  rw [conv_comm (fun i => conv (cf (syn v (syn v p))) (cf [-v, 1]) i + cf [evP (syn v p) v] i), conv_add, conv_comm (cf [-v, 1]) (fun i => conv (cf (syn v (syn v p))) (cf [-v, 1]) i), conv_assoc, conv_comm (cf [-v, 1]) (cf [evP (syn v p) v]), conv_lin v (cf [evP (syn v p) v])] at e2
  have e3 : conv (cf (syn v (syn v p))) (fun i => conv (cf [-v, 1]) (cf [-v, 1]) i) j = conv (cf (syn v (syn v p))) (cf sq) j := conv_congr (fun _ => rfl) (fun i => (hs i).symm) j
  rw [e3] at e2
  rw [e1, e2, deriv_ev h]
  cases j with
  | zero => simp only [cf_zero, if_neg (show ¬ 0 < 0 by omega)]; grind
  | succ j =>
    cases j with
    | zero => simp only [cf_zero, cf_succ, cf_nil, show 0 + 1 - 1 = 0 by omega, if_pos (show 0 < 0 + 1 by omega)]; grind
    | succ j => simp only [cf_succ, cf_nil, show j + 1 + 1 - 1 = j + 1 by omega, if_pos (show 0 < j + 1 + 1 by omega)]; grind

end Go.Proofs.YtffndcjmabjhiaaGreatDoor

namespace Go.Proofs.YtffndcjmabjhiaaGreatDoor
open Num

/-- A polynomial of at most n coefficients, each a fraction of at most N over D. -/
def Ok (D N n : Nat) (l : List Rat) : Prop := l.length ≤ n ∧ NT l ∧ bdL D N l
theorem Ok.fit {D N n : Nat} {l : List Rat} (h : Ok D N n l) (h0 : 0 < D) (hD : Lo D) (hN : Lo N) (i : Nat) : fitQ (cf l i) := lim.fit ((h.2.2 i).lim90 h0 hD hN) (by decide)
theorem Ok.vp {D N n : Nat} {l : List Rat} (h : Ok D N n l) (h0 : 0 < D) (hD : Lo D) (hN : Lo N) (hn : n ≤ 13) : Vp l := ⟨Nat.le_trans h.1 hn, h.2.1, h.fit h0 hD hN⟩
theorem times_c {D N E M a b : Nat} {p q : List Rat} (hp : Ok D N a p) (hq : Ok E M b q) (h0 : 0 < D) (h1 : 0 < E) (hD : Lo (D * E)) (hN : Lo (a * (N * M))) (hlD : Lo D) (hlE : Lo E) (hlN : Lo N) (hlM : Lo M) (hn : a + b ≤ 14) :
    ∃ r, timesO p q = some r ∧ (∀ j, cf r j = conv (cf p) (cf q) j) ∧ Ok (D * E) (a * (N * M)) (a + b - 1) r := by
  have ha := hp.1
  have hb := hq.1
  obtain ⟨r, h2, h3, h4, h5, h6⟩ := times_ok hp.2.2 hq.2.2 h0 h1 hD (Nat.lt_of_le_of_lt (Nat.mul_le_mul_right _ ha) hN) hlD hlE hlN hlM (by omega)
  exact ⟨r, h2, h5, by omega, h3, fun i => (h6 i).mono (Nat.mul_le_mul_right _ ha)⟩
theorem add_c {D N M a b : Nat} {p q : List Rat} (hp : Ok D N a p) (hq : Ok D M b q) (h0 : 0 < D) (hD : Lo D) (hN : Lo N) (hM : Lo M) :
    ∃ r, combO addQ p q = some r ∧ (∀ i, cf r i = cf p i + cf q i) ∧ Ok D (N + M) (max a b) r := by
  have ha := hp.1
  have hb := hq.1
  obtain ⟨r, h1, h2, h3, h4, h5⟩ := comb_add hp.2.2 hq.2.2 h0 hD hN hM
  exact ⟨r, h1, h4, by omega, h2, h5⟩
theorem sub_c {D N M a b : Nat} {p q : List Rat} (hp : Ok D N a p) (hq : Ok D M b q) (h0 : 0 < D) (hD : Lo D) (hN : Lo N) (hM : Lo M) :
    ∃ r, combO subQ p q = some r ∧ (∀ i, cf r i = cf p i - cf q i) ∧ Ok D (N + M) (max a b) r := by
  have ha := hp.1
  have hb := hq.1
  obtain ⟨r, h1, h2, h3, h4, h5⟩ := comb_sub hp.2.2 hq.2.2 h0 hD hN hM
  exact ⟨r, h1, h4, by omega, h2, h5⟩
theorem lim_bd {v : Rat} (h : lim 3 v) : bd v.den 999 v ∧ 0 < v.den ∧ v.den ≤ 999 := by
  have h1 : v.num.natAbs < 1000 := h.1
  have h2 : v.den < 1000 := h.2
  exact ⟨⟨v.num, by omega, by
    have hd : (v.den : Rat) ≠ 0 := by
      intro e
      have h3 : v.den = 0 := by exact_mod_cast e
      have := v.den_pos
      omega
    have e : v = (v.num : Rat) / (v.den : Rat) := by
      conv => lhs; rw [← Rat.num_divInt_den v]
      rw [Rat.divInt_eq_div]; rfl
    conv => lhs; rw [e]
    grind⟩, v.den_pos, by omega⟩
theorem eval_c {D N a : Nat} {l : List Rat} {v : Rat} (hl : Ok D N a l) (hv : lim 3 v) (h0 : 0 < D) (hD : D * 999 ^ a < 10 ^ 60) (hN : (a + 1) * (N * 1998 ^ a) < 10 ^ 60) :
    evalO v l = some (evP l v) ∧ lim 60 (evP l v) := by
  obtain ⟨b1, b2, b3⟩ := lim_bd hv
  have e1 : D * v.den ^ a ≤ D * 999 ^ a := Nat.mul_le_mul_left _ (Nat.pow_le_pow_left b3 _)
  have e2 : (a + 1) * (N * (999 + v.den) ^ a) ≤ (a + 1) * (N * 1998 ^ a) := Nat.mul_le_mul_left _ (Nat.mul_le_mul_left _ (Nat.pow_le_pow_left (by omega) _))
  have t60 : (10 : Nat) ^ 60 ≤ 10 ^ 90 := by decide
  obtain ⟨h1, h2⟩ := eval_ok (M := 999) b1 h0 b2 (by decide) l (fun c hc => by
    obtain ⟨i, hi, rfl⟩ := List.getElem_of_mem hc
    rw [← cf_at hi]; exact hl.2.2 i) a hl.1 (Nat.lt_of_lt_of_le (Nat.lt_of_le_of_lt e1 hD) t60) (Nat.lt_of_lt_of_le (Nat.lt_of_le_of_lt e2 hN) t60) (by unfold Lo; exact Nat.lt_of_le_of_lt b3 (by decide)) (by decide)
  refine ⟨h1, h2.limK (Nat.mul_pos h0 (Nat.pow_pos b2)) ?_ ?_⟩
  · refine Nat.lt_of_le_of_lt ?_ (Nat.lt_of_le_of_lt e1 hD)
    exact Nat.mul_le_mul_left _ (Nat.pow_le_pow_right b2 hl.1)
  · refine Nat.lt_of_le_of_lt ?_ (Nat.lt_of_le_of_lt e2 hN)
    exact Nat.mul_le_mul (by have := hl.1; omega) (Nat.mul_le_mul_left _ (Nat.pow_le_pow_right (by omega) hl.1))

/-- What 'Make' gives. -/
def In (l : List Rat) : Prop := Ok 6 36 5 l
theorem ring_law {p q r : List Rat} {v : Rat} (hp : In p) (hq : In q) (hr : In r) (hv : lim 3 v) :
    ∃ pq qr left pr all w, timesO p q = some pq ∧ timesO q p = some pq ∧ combO addQ q r = some qr ∧ timesO p qr = some left ∧ timesO p r = some pr ∧ combO addQ pq pr = some left ∧ timesO pq r = some all ∧ timesO q pr = some all ∧ combO subQ qr r = some q ∧
      evalO v p = some (evP p v) ∧ evalO v q = some (evP q v) ∧ evalO v pq = some (evP pq v) ∧ evalO v qr = some (evP qr v) ∧ evalO v r = some w ∧ mulQ (evP p v) (evP q v) = some (evP pq v) ∧ addQ (evP q v) w = some (evP qr v) ∧
      Vp p ∧ Vp q ∧ Vp r ∧ Vp pq ∧ Vp qr ∧ Vp left ∧ Vp pr ∧ Vp all := by
  obtain ⟨pq, a1, a2, a3⟩ := times_c hp hq (by decide) (by decide) (by decide) (by decide) (by decide) (by decide) (by decide) (by decide) (by decide)
  obtain ⟨qp, b1, b2, b3⟩ := times_c hq hp (by decide) (by decide) (by decide) (by decide) (by decide) (by decide) (by decide) (by decide) (by decide)
  obtain ⟨qr, c1, c2, c3⟩ := add_c hq hr (by decide) (by decide) (by decide) (by decide)
  obtain ⟨left, d1, d2, d3⟩ := times_c hp c3 (by decide) (by decide) (by decide) (by decide) (by decide) (by decide) (by decide) (by decide) (by decide)
  obtain ⟨pr, e1, e2, e3⟩ := times_c hp hr (by decide) (by decide) (by decide) (by decide) (by decide) (by decide) (by decide) (by decide) (by decide)
  obtain ⟨right, f1, f2, f3⟩ := add_c a3 e3 (by decide) (by decide) (by decide) (by decide)
  obtain ⟨all, g1, g2, g3⟩ := times_c a3 hr (by decide) (by decide) (by decide) (by decide) (by decide) (by decide) (by decide) (by decide) (by decide)
  obtain ⟨other, h1, h2, h3⟩ := times_c hq e3 (by decide) (by decide) (by decide) (by decide) (by decide) (by decide) (by decide) (by decide) (by decide)
  obtain ⟨back, i1, i2, i3⟩ := sub_c c3 hr (by decide) (by decide) (by decide) (by decide)
  have k1 : qp = pq := NT_ext b3.2.1 a3.2.1 fun i => by rw [a2, b2, conv_comm]
  have k2 : right = left := NT_ext f3.2.1 d3.2.1 fun i => by
    rw [f2, d2, a2, e2, ← conv_add]; exact conv_congr (fun _ => rfl) (fun i => (c2 i).symm) i
  have k3 : other = all := NT_ext h3.2.1 g3.2.1 fun i => by
    rw [h2, g2]
    have x1 : conv (cf q) (cf pr) i = conv (cf q) (fun j => conv (cf p) (cf r) j) i := conv_congr (fun _ => rfl) e2 i
    have x2 : conv (cf pq) (cf r) i = conv (fun j => conv (cf q) (cf p) j) (cf r) i := conv_congr (fun j => by rw [a2, conv_comm]) (fun _ => rfl) i
    rw [x1, x2, conv_assoc]
  have k4 : back = q := NT_ext i3.2.1 hq.2.1 fun i => by rw [i2, c2]; grind
  obtain ⟨v1, v2⟩ := eval_c hp hv (by decide) (by decide) (by decide)
  obtain ⟨v3, v4⟩ := eval_c hq hv (by decide) (by decide) (by decide)
  obtain ⟨v5, v6⟩ := eval_c a3 hv (by decide) (by decide) (by decide)
  obtain ⟨v7, v8⟩ := eval_c c3 hv (by decide) (by decide) (by decide)
  obtain ⟨v9, v10⟩ := eval_c hr hv (by decide) (by decide) (by decide)
  have m1 : evP pq v = evP p v * evP q v := evP_conv a2
  have m2 : evP qr v = evP q v + evP r v := by
    rw [evP_any (Nat.le_max_left qr.length (max q.length r.length)), evP_any (l := q) (n := max qr.length (max q.length r.length)) (by omega), evP_any (l := r) (n := max qr.length (max q.length r.length)) (by omega), ← sumN_add]
    exact sumN_congr fun i _ => by rw [c2]; grind
  subst k1 k2 k3 k4
  refine ⟨_, qr, _, pr, _, _, a1, b1, c1, d1, e1, f1, g1, h1, i1, v1, v3, v5, v7, v9, ?_, ?_, hp.vp (by decide) (by decide) (by decide) (by decide), hq.vp (by decide) (by decide) (by decide) (by decide), hr.vp (by decide) (by decide) (by decide) (by decide),
    a3.vp (by decide) (by decide) (by decide) (by decide), c3.vp (by decide) (by decide) (by decide) (by decide), d3.vp (by decide) (by decide) (by decide) (by decide), e3.vp (by decide) (by decide) (by decide) (by decide), g3.vp (by decide) (by decide) (by decide) (by decide)⟩
  · rw [m1]; exact mul_ok (v2.mono (by decide)) (v4.mono (by decide))
  · rw [m2]; exact add_ok (v4.mono (by decide)) (v10.mono (by decide))

theorem Lo.mono {a b : Nat} (h : Lo b) (k : a ≤ b) : Lo a := Nat.lt_of_le_of_lt k h
theorem by_c {D N a b : Nat} {p q : List Rat} (hp : Ok D N a p) (hq : Ok 6 36 b q) (hD : 0 < D) (hne : q ≠ []) (hlD : Lo (D * 36 ^ a)) (hlN : Lo (N * 6 * 72 ^ a)) :
    ∃ u r A, byO p q = some (u, r) ∧ 0 < A ∧ A ≤ 36 ^ a ∧ r.length < q.length ∧ u.length = p.length + 1 - q.length ∧ (∀ j, conv (cf u) (cf q) j + cf r j = cf p j) ∧ Ok (D * A) (N * 6 * 72 ^ a) a u ∧ Ok (D * A) (N * 6 * 72 ^ a) b r := by
  have ha := hp.1
  have hb := hq.1
  have hN2 : N * 6 * (2 * 36) ^ p.length ≤ N * 6 * 72 ^ a := Nat.mul_le_mul_left _ (Nat.pow_le_pow_right (by decide) ha)
  obtain ⟨u, r, A, h1, h2, h3, h4, h5, h6, h7, h8, h9, h10⟩ := by_ok (E := 6) (M := 36) hp.2.2 hq.2.2 hD (by decide) hne hq.2.1 hp.2.1 (by decide) (by decide)
    (hlD.mono (Nat.mul_le_mul_left _ (Nat.pow_le_pow_right (by decide) ha))) (hlN.mono hN2)
  have hql : 0 < q.length := List.length_pos_iff.2 hne
  refine ⟨u, r, A ^ p.length, h1, Nat.pow_pos h2, Nat.le_trans (Nat.pow_le_pow_left h3 _) (Nat.pow_le_pow_right (by decide) ha), h6, h7, h8, ⟨by omega, h4, fun i => (h9 i).mono hN2⟩, ⟨by omega, h5, fun i => (h10 i).mono hN2⟩⟩

theorem divided_law {p q r : List Rat} (hp : In p) (hq : In q) (hr : In r) (hne : q ≠ []) :
    ∃ a b m rq, byO p q = some (a, b) ∧ timesO a q = some m ∧ combO addQ m b = some p ∧ timesO r q = some rq ∧ byO rq q = some (r, []) ∧ b.length < q.length ∧ Vp a ∧ Vp b ∧ Vp m ∧ Vp rq ∧ Vp p ∧ Vp q ∧ Vp r := by
  obtain ⟨a, b, A, a1, a2, a3, a4, a5, a6, a7, a8⟩ := by_c hp hq (by decide) hne (by decide) (by decide)
  have hA : A ≤ 60466176 := a3
  have l1 : Lo (6 * A) := Lo.mono (b := 6 * 60466176) (by decide) (by omega)
  obtain ⟨m, b1, b2, b3⟩ := times_c a7 hq (by omega) (by decide) (Lo.mono (b := 6 * 60466176 * 6) (by decide) (by omega)) (by decide) l1 (by decide) (by decide) (by decide) (by decide)
  have b' : Ok (6 * A * 6) (36 * 6 * 72 ^ 5 * 6) 5 b := ⟨a8.1, a8.2.1, fun i => (a8.2.2 i).scale 6⟩
  obtain ⟨s, c1, c2, c3⟩ := add_c b3 b' (by omega) (Lo.mono (b := 6 * 60466176 * 6) (by decide) (by omega)) (by decide) (by decide)
  obtain ⟨rq, d1, d2, d3⟩ := times_c hr hq (by decide) (by decide) (by decide) (by decide) (by decide) (by decide) (by decide) (by decide) (by decide)
  obtain ⟨c, d, B, e1, e2, e3, e4, e5, e6, e7, e8⟩ := by_c d3 hq (by decide) hne (by decide) (by decide)
  have k1 : s = p := NT_ext c3.2.1 hp.2.1 fun i => by rw [c2, b2, a6]
  have hql : 0 < q.length := List.length_pos_iff.2 hne
  obtain ⟨u1, u2⟩ := div_unique (u := c) (r := d) (u' := r) (r' := []) hne hq.2.1 e4 hql (fun j => by rw [e6, d2, cf_nil]; grind)
  have k2 : c = r := NT_ext e7.2.1 hr.2.1 u1
  have k3 : d = [] := NT_ext e8.2.1 NT.nil u2
  subst k1 k2 k3
  exact ⟨a, b, m, rq, a1, b1, c1, d1, e1, a4, a7.vp (by omega) l1 (by decide) (by decide), a8.vp (by omega) l1 (by decide) (by decide), b3.vp (by omega) (Lo.mono (b := 6 * 60466176 * 6) (by decide) (by omega)) (by decide) (by decide),
    d3.vp (by decide) (by decide) (by decide) (by decide), hp.vp (by decide) (by decide) (by decide) (by decide), hq.vp (by decide) (by decide) (by decide) (by decide), hr.vp (by decide) (by decide) (by decide) (by decide)⟩

theorem lim_mul {p q : Rat} {k l : Nat} (hp : lim k p) (hq : lim l q) : lim (k + l) (p * q) := by
  rw [mul_divInt]
  refine lim_divInt ?_ ?_ (by have h1 := p.den_pos; have h2 := q.den_pos; exact Int.mul_ne_zero (by omega) (by omega))
  · rw [Int.natAbs_mul, Nat.pow_add]
    exact Nat.mul_lt_mul_of_lt_of_le hp.1 (Nat.le_of_lt hq.1) (Nat.pow_pos (by decide))
  · rw [Int.natAbs_mul, Int.natAbs_natCast, Int.natAbs_natCast, Nat.pow_add]
    exact Nat.mul_lt_mul_of_lt_of_le hp.2 (Nat.le_of_lt hq.2) (Nat.pow_pos (by decide))
theorem deriv_c {D N a : Nat} {p : List Rat} (hp : Ok D N a p) (hD : 0 < D) (ha : a ≤ 13) (hlD : Lo D) (hlN : Lo (13 * N)) :
    ∃ d, derivO p = some d ∧ (∀ i, cf d i = dcf (cf p) i) ∧ Ok D (13 * N) (a - 1) d := by
  have h := hp.1
  obtain ⟨d, h1, h2, h3, h4, h5⟩ := deriv_ok hp.2.2 hD hp.2.1 (by omega) hlD hlN
  exact ⟨d, h1, h4, by omega, h2, h5⟩
theorem derivative_law {p q : List Rat} {v : Rat} (hp : In p) (hq : In q) (hv : lim 3 v) :
    ∃ pq d dp dq a b u sq tangent start, timesO p q = some pq ∧ derivO pq = some d ∧ derivO p = some dp ∧ derivO q = some dq ∧ timesO dp q = some a ∧ timesO p dq = some b ∧ combO addQ a b = some d ∧ evalO v p = some (evP p v) ∧ evalO v dp = some (evP dp v) ∧
      subQ 0 v = some (-v) ∧ timesO [-v, 1] [-v, 1] = some sq ∧ byO p sq = some (u, trimP [start, evP dp v]) ∧ mulQ (evP dp v) (-v) = some tangent ∧ addQ (evP p v) tangent = some start ∧
      Vp p ∧ Vp q ∧ Vp pq ∧ Vp d ∧ Vp dp ∧ Vp dq ∧ Vp a ∧ Vp b ∧ Vp [-v, 1] ∧ Vp sq ∧ sq ≠ [] ∧ (∀ i, fitQ (cf u i)) := by
  obtain ⟨pq, a1, a2, a3⟩ := times_c hp hq (by decide) (by decide) (by decide) (by decide) (by decide) (by decide) (by decide) (by decide) (by decide)
  obtain ⟨d, b1, b2, b3⟩ := deriv_c a3 (by decide) (by decide) (by decide) (by decide)
  obtain ⟨dp, c1, c2, c3⟩ := deriv_c hp (by decide) (by decide) (by decide) (by decide)
  obtain ⟨dq, d1, d2, d3⟩ := deriv_c hq (by decide) (by decide) (by decide) (by decide)
  obtain ⟨a, e1, e2, e3⟩ := times_c c3 hq (by decide) (by decide) (by decide) (by decide) (by decide) (by decide) (by decide) (by decide) (by decide)
  obtain ⟨b, f1, f2, f3⟩ := times_c hp d3 (by decide) (by decide) (by decide) (by decide) (by decide) (by decide) (by decide) (by decide) (by decide)
  obtain ⟨s, g1, g2, g3⟩ := add_c e3 f3 (by decide) (by decide) (by decide) (by decide)
  have k1 : s = d := NT_ext g3.2.1 b3.2.1 fun i => by
    rw [g2, b2, e2, f2]
    have x1 : dcf (cf pq) i = dcf (conv (cf p) (cf q)) i := by unfold dcf; rw [a2]
    rw [x1, dcf_conv, conv_congr c2 (fun _ => rfl), conv_congr (P := cf p) (fun _ => rfl) d2]
  obtain ⟨v1, v2⟩ := eval_c hp hv (by decide) (by decide) (by decide)
  obtain ⟨v3, v4⟩ := eval_c c3 hv (by decide) (by decide) (by decide)
  obtain ⟨w1, w2, w3⟩ := lim_bd hv
  have hE2 : v.den * v.den ≤ 999 * 999 := Nat.mul_le_mul w3 w3
  have lE : Lo v.den := Lo.mono (b := 999) (by decide) w3
  have lE2 : Lo (v.den * v.den) := Lo.mono (b := 999 * 999) (by decide) hE2
  have hroot : Ok v.den 999 2 [-v, 1] := by
    refine ⟨Nat.le_refl 2, Or.inr (by show (1 : Rat) ≠ 0; decide), fun i => ?_⟩
    obtain ⟨z, z1, z2⟩ := w1
    match i with
    | 0 => exact ⟨-z, by omega, by rw [cf_zero, Rat.intCast_neg]; grind⟩
    | 1 => exact ⟨(v.den : Int), by omega, by
        rw [cf_succ, cf_zero]
        have : ((v.den : Int) : Rat) = (v.den : Rat) := rfl
        rw [this]; grind⟩
    | i + 2 => rw [cf_succ, cf_succ, cf_nil]; exact bd.zero _ _
  obtain ⟨sq, s1, s2, s3⟩ := times_c hroot hroot w2 w2 lE2 (by decide) lE lE (by decide) (by decide) (by decide)
  have hsq2 : cf sq 2 = 1 := by
    rw [s2, conv_lin]
    show (if 0 < 2 then cf [-v, 1] 1 else 0) - v * cf [-v, 1] 2 = 1
    rw [if_pos (by omega), cf_succ, cf_zero, cf_succ, cf_succ, cf_nil]; grind
  have hsq : sq ≠ [] := fun c => by rw [c, cf_nil] at hsq2; exact absurd hsq2 (by decide)
  have hsl : sq.length = 3 := by
    have h1 : sq.length ≤ 3 := s3.1
    have h2 : ¬ sq.length ≤ 2 := fun c => by rw [cf_past c] at hsq2; exact absurd hsq2 (by decide)
    omega
  have hpl : p.length ≤ 5 := hp.1
  have hM5 : (2 * (999 * 999)) ^ p.length ≤ (2 * (999 * 999)) ^ 5 := Nat.pow_le_pow_right (by decide) hpl
  have hN5 : 36 * (v.den * v.den) * (2 * (2 * (999 * 999))) ^ p.length ≤ 36 * (999 * 999) * (2 * (2 * (999 * 999))) ^ 5 := Nat.mul_le_mul (Nat.mul_le_mul_left _ hE2) (Nat.pow_le_pow_right (by decide) hpl)
  have lN5 : Lo (36 * (v.den * v.den) * (2 * (2 * (999 * 999))) ^ p.length) := Lo.mono (by decide) hN5
  have lD5 : Lo (6 * (2 * (999 * 999)) ^ p.length) := Lo.mono (b := 6 * (2 * (999 * 999)) ^ 5) (by decide) (Nat.mul_le_mul_left _ hM5)
  obtain ⟨u, r, A, h1, h2, h3, h4, h5, h6, h7, h8, h9, h10⟩ := by_ok hp.2.2 s3.2.2 (by decide) (Nat.mul_pos w2 w2) hsq s3.2.1 hp.2.1 lE2 (by decide) lD5 lN5
  have t1 : mulQ (evP dp v) (-v) = some (evP dp v * (-v)) := mul_ok (v4.mono (by decide)) (by
    have : lim 3 (-v) := ⟨by rw [Rat.neg_num, Int.natAbs_neg]; exact hv.1, by rw [Rat.neg_den]; exact hv.2⟩
    exact this.mono (by decide))
  have hm : lim 3 (-v) := ⟨by rw [Rat.neg_num, Int.natAbs_neg]; exact hv.1, by rw [Rat.neg_den]; exact hv.2⟩
  have t2 : addQ (evP p v) (evP dp v * (-v)) = some (evP p v + evP dp v * (-v)) := add_ok (v2.mono (by decide)) ((lim_mul v4 hm).mono (by decide))
  have t3 : subQ 0 v = some (-v) := by
    have : subQ 0 v = some (0 - v) := sub_ok ⟨by decide, by decide⟩ (hv.mono (by decide))
    rw [this]; congr 1; grind
  have hr : r = trimP [evP p v + evP dp v * (-v), evP dp v] := by
    obtain ⟨x1, x2⟩ := div_unique (u := u) (r := r) (u' := syn v (syn v p)) (r' := [evP p v + evP dp v * (-v), evP dp v]) hsq s3.2.1 h6 (by rw [hsl]; exact Nat.lt_succ_self 2) (fun j => by rw [h8, ← taylor v c2 s2 j])
    exact NT_ext h5 (trim_NT _) fun i => by rw [x2, trim_cf]
  have hAA : A ^ p.length ≤ (2 * (999 * 999)) ^ p.length := Nat.pow_le_pow_left h3 _
  subst k1 hr
  exact ⟨pq, _, dp, dq, a, b, u, sq, _, _, a1, b1, c1, d1, e1, f1, g1, v1, v3, t3, s1, h1, t1, t2, hp.vp (by decide) (by decide) (by decide) (by decide), hq.vp (by decide) (by decide) (by decide) (by decide), a3.vp (by decide) (by decide) (by decide) (by decide),
    b3.vp (by decide) (by decide) (by decide) (by decide), c3.vp (by decide) (by decide) (by decide) (by decide), d3.vp (by decide) (by decide) (by decide) (by decide), e3.vp (by decide) (by decide) (by decide) (by decide), f3.vp (by decide) (by decide) (by decide) (by decide),
    hroot.vp w2 lE (by decide) (by decide), s3.vp (Nat.mul_pos w2 w2) lE2 (by decide) (by decide), hsq, fun i => lim.fit ((h9 i).lim90 (Nat.mul_pos (by decide) (Nat.pow_pos h2)) (Lo.mono lD5 (Nat.mul_le_mul_left _ hAA)) lN5) (by decide)⟩

end Go.Proofs.YtffndcjmabjhiaaGreatDoor
