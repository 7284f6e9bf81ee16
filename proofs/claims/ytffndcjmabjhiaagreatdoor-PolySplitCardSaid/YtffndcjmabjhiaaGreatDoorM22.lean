/- Division of polynomials with a common factor: it does not fail, and its bounds are those of the parts without the factor. Plain. Euclid's algorithm for polynomials with a common factor does not fail where a reckoning of sizes allows it; what it returns divides both, and is a combination of both. Plain. Gauss's lemma, without primes; and a polynomial with integer values that are small at enough integers is small. Plain. A polynomial of low degree with integer coefficients is small if its values at enough integers are; it has few roots. Plain. Common divisors of small polynomials: sizes. Plain. A division that leaves nothing. Plain. -/
import Derived.Test.YtffndcjmabjhiaaGreatDoorK17
namespace Go.Proofs.YtffndcjmabjhiaaGreatDoor
open Num

/-- Numbers that are small enough for one product. -/
def Lo9 (N : Nat) : Prop := N < 10 ^ 99
instance (N : Nat) : Decidable (Lo9 N) := inferInstanceAs (Decidable (N < 10 ^ 99))
theorem Lo9.mono {a b : Nat} (h : Lo9 b) (k : a ≤ b) : Lo9 a := Nat.lt_of_le_of_lt k h
theorem bd.lim99 {D N : Nat} {c : Rat} (h : bd D N c) (h0 : 0 < D) (hD : Lo9 D) (hN : Lo9 N) : lim 99 c := h.limK h0 hD hN
theorem fit_zero' : fitQ 0 := by unfold fitQ; decide
theorem mul_ok9 {p q : Rat} (hp : lim 99 p) (hq : lim 99 q) : mulQ p q = some (p * q) := mul_lim hp hq (by decide)
theorem sub_ok9 {p q : Rat} (hp : lim 99 p) (hq : lim 99 q) : subQ p q = some (p - q) := sub_lim hp hq (by decide)
theorem quo_ok9 {p q : Rat} (hp : lim 99 p) (hq : lim 99 q) (h : q ≠ 0) : divQ p q = some (p / q) := div_lim hp hq (by decide) h

/-- A polynomial, times a monomial. -/
def shf (f : Rat) (s : Nat) (Q : Nat → Rat) (j : Nat) : Rat := if s ≤ j then f * Q (j - s) else 0
def mono (f : Rat) (s : Nat) : List Rat := (List.replicate (s + 1) 0).set s f
theorem mono_conv (f : Rat) (s : Nat) (Q : Nat → Rat) (j : Nat) : conv (cf (mono f s)) Q j = shf f s Q j := by
  unfold mono
  rw [conv_set f Q (by simp) (cf_replicate _ _), conv_zero (fun i => cf_replicate _ _)]
  unfold shf; grind
theorem conv_shf (f : Rat) (s : Nat) (P Q : Nat → Rat) (j : Nat) : conv (shf f s P) Q j = shf f s (conv P Q) j := by
  rw [← mono_conv, ← conv_assoc]
  exact conv_congr (fun i => (mono_conv f s P i).symm) (fun _ => rfl) j
theorem conv_smul (k : Rat) (P Q : Nat → Rat) (j : Nat) : conv (fun i => k * P i) Q j = k * conv P Q j := by
  unfold conv
  rw [← sumN_mul]
  exact sumN_congr fun i _ => by grind
theorem conv_past {P Q : Nat → Rat} {n m : Nat} (hP : ∀ i, n ≤ i → P i = 0) (hQ : ∀ i, m ≤ i → Q i = 0) (j : Nat) (h : n + m ≤ j + 1) : conv P Q j = 0 := sumN_zero fun i _ => by
  by_cases c : n ≤ i
  · rw [hP i c]; grind
  · rw [hQ (j - i) (by omega)]; grind
/-- The list of the values of a function that is zero from n on. -/
def lst (n : Nat) (F : Nat → Rat) : List Rat := trimP ((List.range n).map F)
theorem lst_cf {n : Nat} {F : Nat → Rat} (h : ∀ i, n ≤ i → F i = 0) (i : Nat) : cf (lst n F) i = F i := by
  unfold lst
  rw [trim_cf]
  unfold cf
  rw [List.getD_eq_getElem?_getD, List.getElem?_map]
  by_cases c : i < n
  · rw [List.getElem?_range c]; rfl
  · rw [List.getElem?_eq_none (by simp; omega), h i (by omega)]; rfl
theorem lst_len (n : Nat) (F : Nat → Rat) : (lst n F).length ≤ n := Nat.le_trans (trim_len _) (by simp)
theorem lst_NT (n : Nat) (F : Nat → Rat) : NT (lst n F) := trim_NT _
theorem NT.none {l : List Rat} (h : NT l) (hz : ∀ i, cf l i = 0) : l = [] := by
  by_cases c : l = []
  · exact c
  · exact absurd (hz _) (h.lead c)

/-- A factor with integer coefficients: what is multiplied by it grows by κ at the most. -/
structure Fac (κ : Nat) (c : List Rat) : Prop where
  ne : c ≠ []
  nt : NT c
  kb : ∀ {D N : Nat} {P : Nat → Rat}, (∀ i, bd D N (P i)) → ∀ i, bd D (κ * N) (conv P (cf c) i)
theorem fac_len {c w r : List Rat} (hc0 : c ≠ []) (hcn : NT c) (hw : NT w) (h0 : w ≠ []) (hr : NT r) (h : ∀ i, cf r i = conv (cf w) (cf c) i) : r.length + 1 = w.length + c.length ∧ cf r (r.length - 1) = cf w (w.length - 1) * cf c (c.length - 1) := by
  have hw1 : 0 < w.length := List.length_pos_iff.2 h0
  have hc1 : 0 < c.length := List.length_pos_iff.2 hc0
  have t := conv_top (P := cf w) (Q := cf c) (t := w.length - 1) (m := c.length - 1) (fun i hi => cf_past (by omega)) (fun i hi => cf_past (by omega))
  have hne : cf w (w.length - 1) * cf c (c.length - 1) ≠ 0 := fun e => by
    rcases Rat.mul_eq_zero.1 e with k | k
    · exact hw.lead h0 k
    · exact hcn.lead hc0 k
  have h1 : w.length - 1 + (c.length - 1) < r.length := by
    rcases Nat.lt_or_ge (w.length - 1 + (c.length - 1)) r.length with k | k
    · exact k
    · exact absurd ((t.symm.trans (h _).symm).trans (cf_past k)) hne
  have h2 : r.length ≤ w.length + c.length - 1 := by
    rcases Nat.lt_or_ge (w.length + c.length - 1) r.length with k | k
    · refine absurd ((h (r.length - 1)).trans (conv_past (n := w.length) (m := c.length) (fun i hi => cf_past hi) (fun i hi => cf_past hi) _ (by omega))) (hr.lead fun e => ?_)
      rw [e] at k; simp at k
    · exact k
  have e : r.length - 1 = w.length - 1 + (c.length - 1) := by omega
  exact ⟨by omega, by rw [e, h, t]⟩
theorem fac_nil {c r : List Rat} (hr : NT r) (h : ∀ i, cf r i = conv (cf []) (cf c) i) : r = [] := hr.none fun i => by rw [h, conv_zero (P := cf []) (fun _ => rfl)]

theorem divc_ok {κ E M A : Nat} {c t q : List Rat} {a : Int} (hc : Fac κ c) (ht : bdL E M t) (hE : 0 < E) (hne : t ≠ []) (hNT : NT t) (ha : cf t (t.length - 1) * (E : Rat) = (a : Rat)) (ha0 : a ≠ 0) (haA : a.natAbs = A) (haM : A ≤ M)
    (hNq : NT q) (hq : ∀ i, cf q i = conv (cf t) (cf c) i) (hlE : Lo9 E) (hlM : Lo9 (κ * M)) (f : Nat) :
    ∀ (n D N : Nat) (u w r : List Rat), n ≤ f → w.length + 1 ≤ t.length + n → bdL D N w → 0 < D → NT w → NT r → (∀ i, cf r i = conv (cf w) (cf c) i) → Lo9 (D * M ^ n) → Lo9 (κ * N * (2 * M) ^ n) → (∀ j, j < n → Lo9 (N * E * (2 * M) ^ j)) →
      (∀ i, i + t.length ≤ w.length → cf u i = 0) → (t.length ≤ w.length → w.length - t.length < u.length) → (∀ i, fitQ (cf u i)) →
      ∃ u' r' w', divO q f u r = some (u', r') ∧ NT r' ∧ NT w' ∧ w'.length < t.length ∧ (∀ i, cf r' i = conv (cf w') (cf c) i) ∧ u'.length = u.length ∧ (∀ j, conv (cf u') (cf t) j + cf w' j = conv (cf u) (cf t) j + cf w j) ∧ bdL (D * A ^ n) (N * (2 * M) ^ n) w' ∧ ∀ i, fitQ (cf u' i) := by
  have htl : 0 < t.length := List.length_pos_iff.2 hne
  have hcl : 0 < c.length := List.length_pos_iff.2 hc.ne
  obtain ⟨hql, hqt⟩ := fac_len hc.ne hc.nt hNT hne hNq hq
  have hA1 : 1 ≤ A := by omega
  have hM1 : 1 ≤ M := by omega
  have hEr : (E : Rat) ≠ 0 := by
    intro e
    have : E = 0 := by exact_mod_cast e
    omega
  have hl0 : cf q (q.length - 1) ≠ 0 := hNq.lead fun e => by rw [e] at hql; simp at hql; omega
  have up : ∀ (D N : Nat) (n : Nat) {x : Rat}, bd D N x → bd (D * A ^ n) (N * (2 * M) ^ n) x := fun D N n x h => (h.scale (A ^ n)).mono (Nat.mul_le_mul_left _ (Nat.pow_le_pow_left (by omega) _))
  have short : ∀ {w r : List Rat}, NT w → NT r → (∀ i, cf r i = conv (cf w) (cf c) i) → w.length < t.length → r.length < q.length := fun {w r} hw hr h hlt => by
    by_cases e : w = []
    · subst e
      rw [fac_nil hr h]; simp; omega
    · have := (fac_len hc.ne hc.nt hw e hr h).1
      omega
  induction f with
  | zero =>
    intro n D N u w r hn hl hw hD hNw hNr hr _ _ _ _ _ hu
    obtain rfl : n = 0 := by omega
    exact ⟨u, r, w, rfl, hNr, hNw, by omega, hr, rfl, fun _ => rfl, fun i => up D N 0 (hw i), hu⟩
  | succ f ih =>
    intro n D N u w r hn hl hw hD hNw hNr hr hlD hlN hlF hz hlen hu
    by_cases hlt : w.length < t.length
    · have := short hNw hNr hr hlt
      exact ⟨u, r, w, by show (if _ then _ else _) = _; rw [if_pos this], hNr, hNw, hlt, hr, rfl, fun _ => rfl, fun i => up D N n (hw i), hu⟩
    · obtain ⟨m, rfl⟩ : ∃ m, n = m + 1 := ⟨n - 1, by omega⟩
      have hw0 : w ≠ [] := fun e => hlt (by rw [e]; exact htl)
      obtain ⟨hrl, hrt⟩ := fac_len hc.ne hc.nt hNw hw0 hNr hr
      have hs := hlen (by omega)
      have es : r.length - q.length = w.length - t.length := by omega
      have eD : D * A * A ^ m = D * A ^ (m + 1) := by rw [Nat.pow_succ, Nat.mul_comm (A ^ m), Nat.mul_assoc]
      have eDM : D * M * M ^ m = D * M ^ (m + 1) := by rw [Nat.pow_succ, Nat.mul_comm (M ^ m), Nat.mul_assoc]
      have eN : 2 * N * M * (2 * M) ^ m = N * (2 * M) ^ (m + 1) := by rw [Nat.pow_succ]; simp only [Nat.mul_comm, Nat.mul_left_comm, Nat.mul_assoc]
      have eN2 : ∀ j, 2 * N * M * E * (2 * M) ^ j = N * E * (2 * M) ^ (j + 1) := fun j => by rw [Nat.pow_succ]; simp only [Nat.mul_comm, Nat.mul_left_comm, Nat.mul_assoc]
      have pM : ∀ k, 1 ≤ (2 * M) ^ k := fun k => Nat.pow_pos (by omega)
      have qM : ∀ k, 1 ≤ M ^ k := fun k => Nat.pow_pos hM1
      have hDA : 0 < D * A := Nat.mul_pos hD hA1
      have lDM : Lo9 (D * M) := hlD.mono (by rw [← eDM]; exact Nat.le_mul_of_pos_right _ (qM _))
      have lDA : Lo9 (D * A) := lDM.mono (Nat.mul_le_mul_left _ haM)
      have lD : Lo9 D := lDA.mono (Nat.le_mul_of_pos_right _ hA1)
      have lNE : Lo9 (N * E) := by have := hlF 0 (by omega); rwa [Nat.pow_zero, Nat.mul_one] at this
      have lNM : Lo9 (κ * (N * M)) := hlN.mono (by
        rw [Nat.mul_assoc κ N]
        refine Nat.mul_le_mul_left _ (Nat.mul_le_mul_left _ ?_)
        calc M ≤ (2 * M) ^ 1 := by rw [Nat.pow_one]; omega
          _ ≤ (2 * M) ^ (m + 1) := Nat.pow_le_pow_right (by omega) (by omega))
      have lN : Lo9 (κ * N) := lNM.mono (Nat.mul_le_mul_left _ (Nat.le_mul_of_pos_right _ hM1))
      obtain ⟨z, hz1, hz2⟩ := hw (w.length - 1)
      have hf0 : divQ (cf r (r.length - 1)) (cf q (q.length - 1)) = some (cf r (r.length - 1) / cf q (q.length - 1)) :=
        quo_ok9 (by rw [hr]; exact (hc.kb hw _).lim99 hD lD lN) (by rw [hq]; exact (hc.kb ht _).lim99 hE hlE hlM) hl0
      generalize hf : cf r (r.length - 1) / cf q (q.length - 1) = g at *
      have hgq : g * cf q (q.length - 1) = cf r (r.length - 1) := by rw [← hf]; grind
      have hc0 : cf c (c.length - 1) ≠ 0 := hc.nt.lead hc.ne
      have hgt : g * cf t (t.length - 1) = cf w (w.length - 1) := by
        rw [hqt, hrt] at hgq
        have : (g * cf t (t.length - 1) - cf w (w.length - 1)) * cf c (c.length - 1) = 0 := by grind
        rcases Rat.mul_eq_zero.1 this with k | k
        · grind
        · exact absurd k hc0
      have hAr : ∃ e : Int, (e = 1 ∨ e = -1) ∧ ((A : Nat) : Rat) = (e : Rat) * (a : Rat) := by
        by_cases c : 0 ≤ a
        · exact ⟨1, Or.inl rfl, by
            have h1 : ((A : Nat) : Int) = a := by omega
            have h2 : ((A : Nat) : Rat) = ((a : Int) : Rat) := by rw [← h1]; rfl
            rw [h2]; grind⟩
        · exact ⟨-1, Or.inr rfl, by
            have h1 : ((A : Nat) : Int) = -a := by omega
            have h2 : ((A : Nat) : Rat) = ((-a : Int) : Rat) := by rw [← h1]; rfl
            rw [h2, Rat.intCast_neg, Rat.intCast_neg]; grind⟩
      obtain ⟨e, he, hAe⟩ := hAr
      have hgz : g * (a : Rat) * (D : Rat) = (z : Rat) * (E : Rat) := by rw [← ha, ← hz2, ← hgt]; grind
      have he1 : e.natAbs = 1 := by rcases he with c | c <;> rw [c] <;> rfl
      have bf : bd (D * A) (N * E) g := by
        refine ⟨e * (z * E), ?_, ?_⟩
        · rw [Int.natAbs_mul, Int.natAbs_mul, Int.natAbs_natCast, he1, Nat.one_mul]; exact Nat.mul_le_mul_right _ hz1
        · rw [Rat.natCast_mul, hAe, Rat.intCast_mul, Rat.intCast_mul]
          have : ((E : Int) : Rat) = (E : Rat) := rfl
          rw [this, ← hgz]; grind
      have bft : ∀ i, bd (D * A) (N * M) (g * cf t i) := fun i => by
        obtain ⟨y, hy1, hy2⟩ := ht i
        refine ⟨e * (z * y), ?_, ?_⟩
        · rw [Int.natAbs_mul, Int.natAbs_mul, he1, Nat.one_mul]; exact Nat.mul_le_mul hz1 hy1
        · rw [Rat.natCast_mul, hAe, Rat.intCast_mul, Rat.intCast_mul]
          have h3 : g * cf t i * ((D : Rat) * ((e : Rat) * (a : Rat))) * (E : Rat) = (e : Rat) * ((z : Rat) * (y : Rat)) * (E : Rat) := by
            rw [← hy2]
            have : g * cf t i * ((D : Rat) * ((e : Rat) * (a : Rat))) * (E : Rat) = (e : Rat) * cf t i * (g * (a : Rat) * (D : Rat)) * (E : Rat) := by grind
            rw [this, hgz]; grind
          have h4 : ∀ x y : Rat, x * (E : Rat) = y * (E : Rat) → x = y := fun x y h => by
            have : (x - y) * (E : Rat) = 0 := by grind
            rcases Rat.mul_eq_zero.1 this with k | k
            · grind
            · exact absurd k hEr
          exact h4 _ _ h3
      have bfq : ∀ i, bd (D * A) (κ * (N * M)) (g * cf q i) := fun i => by
        rw [hq, ← conv_smul]; exact hc.kb bft i
      have brD : ∀ j, bd (D * A) (κ * (N * M)) (cf r j) := fun j => by
        rw [hr]; exact hc.kb (fun i => ((hw i).scale A).mono (Nat.mul_le_mul_left _ haM)) j
      obtain ⟨r', o1, o2, o3⟩ := off_ok (f := g) (s := r.length - q.length) (q := q) (r := r) (q.length - 1) (by omega)
        (fun i => mul_ok9 (bf.lim99 hDA lDA lNE) (by rw [hq]; exact (hc.kb ht i).lim99 hE hlE hlM)) (fun i j => sub_ok9 ((brD j).lim99 hDA lDA lNM) ((bfq i).lim99 hDA lDA lNM))
      have hc1 : ∀ j, cf (trimP (r'.take (r.length - 1))) j = cf r j - shf g (w.length - t.length) (cf q) j := fun j => by
        rw [trim_cf, cf_take]
        unfold shf
        by_cases c : j < r.length - 1
        · rw [if_pos c, o3]
          by_cases c2 : r.length - q.length ≤ j
          · rw [if_pos ⟨c2, by omega⟩, if_pos (by omega), es]
          · rw [if_neg (fun k => c2 k.1), if_neg (by omega)]
        · rw [if_neg c]
          by_cases c2 : j = r.length - 1
          · subst c2
            rw [if_pos (by omega), show r.length - 1 - (w.length - t.length) = q.length - 1 by omega, hgq]; grind
          · rw [cf_past (l := r) (by omega), if_pos (by omega), cf_past (l := q) (by omega)]; grind
      -- the part without the factor
      have hFz : ∀ i, w.length - 1 ≤ i → cf w i - shf g (w.length - t.length) (cf t) i = 0 := fun i hi => by
        unfold shf
        rw [if_pos (by omega)]
        by_cases c2 : i = w.length - 1
        · subst c2
          rw [show w.length - 1 - (w.length - t.length) = t.length - 1 by omega, hgt]; grind
        · rw [cf_past (l := w) (by omega), cf_past (l := t) (by omega)]; grind
      have hW := lst_cf hFz
      have hWl := lst_len (w.length - 1) (fun i => cf w i - shf g (w.length - t.length) (cf t) i)
      have hWn := lst_NT (w.length - 1) (fun i => cf w i - shf g (w.length - t.length) (cf t) i)
      generalize lst (w.length - 1) (fun i => cf w i - shf g (w.length - t.length) (cf t) i) = w2 at hW hWl hWn
      have hr2 : ∀ i, cf (trimP (r'.take (r.length - 1))) i = conv (cf w2) (cf c) i := fun i => by
        have e1 : conv (cf w2) (cf c) i = conv (fun i => cf w i - shf g (w.length - t.length) (cf t) i) (cf c) i := conv_congr hW (fun _ => rfl) i
        have e2 : shf g (w.length - t.length) (conv (cf t) (cf c)) i = shf g (w.length - t.length) (cf q) i := by
          unfold shf; split
          · rw [hq]
          · rfl
        rw [hc1, e1, conv_sub, conv_shf, e2, hr]
      have bw2 : bdL (D * A) (2 * N * M) w2 := fun j => by
        rw [hW, show 2 * N * M = N * M + N * M by rw [Nat.mul_assoc, Nat.two_mul]]
        refine (((hw j).scale A).mono (Nat.mul_le_mul_left _ haM)).sub ?_
        unfold shf; split
        · exact bft _
        · exact bd.zero _ _
      obtain ⟨u', r2, w', k1, k2, k3, k4, k5, k6, k7, k8, k9⟩ := ih m (D * A) (2 * N * M) (u.set (w.length - t.length) g) w2 (trimP (r'.take (r.length - 1))) (by omega) (by omega) bw2 hDA hWn (trim_NT _) hr2
        (hlD.mono (by rw [← eDM]; exact Nat.mul_le_mul_right _ (Nat.mul_le_mul_left _ haM))) (by rw [Nat.mul_assoc, eN, ← Nat.mul_assoc]; exact hlN) (fun j hj => by rw [eN2]; exact hlF (j + 1) (by omega))
        (fun i hi => by rw [cf_set _ _ _ hs, if_neg (by omega)]; exact hz i (by omega)) (fun h => by rw [List.length_set]; omega)
        (fun i => by
          rw [cf_set _ _ _ hs]; split
          · exact lim.fit (bf.lim99 hDA lDA lNE) (by decide)
          · exact hu i)
      rw [eD, eN] at k8
      refine ⟨u', r2, w', ?_, k2, k3, k4, k5, by rw [k6, List.length_set], fun j => ?_, k8, k9⟩
      · show (if _ then _ else _) = _
        rw [if_neg (by omega), hf0]
        show (offO g _ _ _ _).bind _ = _
        rw [o1]
        show divO q f (u.set (r.length - q.length) g) _ = _
        rw [es]; exact k1
      · rw [k7, hW, conv_set g (cf t) hs (hz _ (by omega))]; unfold shf; grind

/-- Division by a polynomial that is not zero; both have the factor c. -/
theorem byc_ok {κ D N E M n : Nat} {c w p t q : List Rat} (hc : Fac κ c) (hw : bdL D N w) (hD : 0 < D) (hNw : NT w) (hNp : NT p) (hp : ∀ i, cf p i = conv (cf w) (cf c) i) (ht : bdL E M t) (hE : 0 < E) (hne : t ≠ []) (hNT : NT t) (hNq : NT q) (hq : ∀ i, cf q i = conv (cf t) (cf c) i)
    (hn : n = w.length + 1 - t.length) (hlE : Lo9 E) (hlM : Lo9 (κ * M)) (hlD : Lo9 (D * M ^ n)) (hlN : Lo9 (κ * N * (2 * M) ^ n)) (hlF : ∀ j, j < n → Lo9 (N * E * (2 * M) ^ j)) :
    ∃ u r w' A, byO p q = some (u, r) ∧ 0 < A ∧ A ≤ M ∧ NT u ∧ NT r ∧ NT w' ∧ w'.length < t.length ∧ (∀ i, cf r i = conv (cf w') (cf c) i) ∧ u.length = w.length + 1 - t.length ∧ (∀ j, conv (cf u) (cf t) j + cf w' j = cf w j) ∧ bdL (D * A ^ n) (N * (2 * M) ^ n) w' ∧ ∀ i, fitQ (cf u i) := by
  have htl : 0 < t.length := List.length_pos_iff.2 hne
  have hcl : 0 < c.length := List.length_pos_iff.2 hc.ne
  obtain ⟨hql, hqt⟩ := fac_len hc.ne hc.nt hNT hne hNq hq
  have hq0 : q ≠ [] := fun e => by rw [e] at hql; simp at hql; omega
  obtain ⟨a, h1, h2⟩ := ht (t.length - 1)
  have ha0 : a ≠ 0 := by
    intro c; rw [c] at h2
    have hEr : (E : Rat) ≠ 0 := by
      intro e
      have : E = 0 := by exact_mod_cast e
      omega
    rcases Rat.mul_eq_zero.1 (h2.trans (by rfl)) with k | k
    · exact hNT.lead hne k
    · exact hEr k
  have hpl : w.length ≤ p.length ∧ p.length + 1 - q.length = w.length + 1 - t.length := by
    by_cases e : w = []
    · subst e; have := fac_nil hNp hp; subst this; simp; omega
    · have := (fac_len hc.ne hc.nt hNw e hNp hp).1; omega
  obtain ⟨u, r, w', k1, k2, k3, k4, k5, k6, k7, k8, k9⟩ := divc_ok hc ht hE hne hNT h2 ha0 rfl h1 hNq hq hlE hlM p.length n D N (List.replicate (p.length + 1 - q.length) 0) w p (by omega) (by omega) hw hD hNw hNp hp hlD hlN hlF
    (fun i _ => cf_replicate _ _) (fun h => by simp; omega) (fun i => by rw [cf_replicate]; exact fit_zero')
  have hconv : ∀ j, conv (cf u) (cf t) j + cf w' j = cf w j := fun j => by rw [k7, conv_zero (fun i => cf_replicate _ _)]; grind
  have hul : u.length = w.length + 1 - t.length := by rw [k6]; simp; omega
  refine ⟨u, r, w', a.natAbs, by unfold byO; rw [if_neg hq0]; exact k1, by omega, h1, ?_, k2, k3, k4, k5, hul, hconv, k8, k9⟩
  by_cases hu : u = []
  · exact Or.inl hu
  · refine Or.inr fun c => ?_
    have hup : 0 < u.length := List.length_pos_iff.2 hu
    have t2 := conv_top (P := cf u) (Q := cf t) (t := u.length - 1) (m := t.length - 1) (fun i hi => cf_past (by omega)) (fun i hi => cf_past (by omega))
    have e := hconv (u.length - 1 + (t.length - 1))
    rw [t2, c, cf_past (l := w') (by omega)] at e
    have hwne : w ≠ [] := fun k => by rw [k] at hul; simp at hul; omega
    have := hNw.lead hwne
    rw [show w.length - 1 = u.length - 1 + (t.length - 1) by omega, ← e] at this
    exact this (by grind)

end Go.Proofs.YtffndcjmabjhiaaGreatDoor

namespace Go.Proofs.YtffndcjmabjhiaaGreatDoor
open Num

theorem conv_addl (P Q R : Nat → Rat) (j : Nat) : conv (fun i => P i + Q i) R j = conv P R j + conv Q R j := by
  rw [conv_comm, conv_add, conv_comm R P, conv_comm R Q]
theorem conv_smulr (k : Rat) (P Q : Nat → Rat) (j : Nat) : conv P (fun i => k * Q i) j = k * conv P Q j := by
  rw [conv_comm, conv_smul, conv_comm]
theorem conv_subr (P Q R : Nat → Rat) (j : Nat) : conv P (fun i => Q i - R i) j = conv P Q j - conv P R j := by
  rw [conv_comm, conv_sub, conv_comm Q, conv_comm R]
/-- A function that is zero from some place on. -/
def Fs (F : Nat → Rat) : Prop := ∃ n, ∀ i, n ≤ i → F i = 0
theorem Fs.cf (l : List Rat) : Fs (cf l) := ⟨l.length, fun _ h => cf_past h⟩
theorem Fs.add {F G : Nat → Rat} (h : Fs F) (k : Fs G) : Fs fun i => F i + G i := by
  obtain ⟨n, h⟩ := h
  obtain ⟨m, k⟩ := k
  exact ⟨max n m, fun i hi => by show F i + G i = 0; rw [h i (by omega), k i (by omega)]; grind⟩
theorem Fs.smul {F : Nat → Rat} (k : Rat) (h : Fs F) : Fs fun i => k * F i := by
  obtain ⟨n, h⟩ := h
  exact ⟨n, fun i hi => by show k * F i = 0; rw [h i hi]; grind⟩
theorem Fs.sub {F G : Nat → Rat} (h : Fs F) (k : Fs G) : Fs fun i => F i - G i := by
  obtain ⟨n, h⟩ := h
  obtain ⟨m, k⟩ := k
  exact ⟨max n m, fun i hi => by show F i - G i = 0; rw [h i (by omega), k i (by omega)]; grind⟩
theorem Fs.conv {F G : Nat → Rat} (h : Fs F) (k : Fs G) : Fs (conv F G) := by
  obtain ⟨n, h⟩ := h
  obtain ⟨m, k⟩ := k
  exact ⟨n + m, fun i hi => conv_past h k i (by omega)⟩
/-- m divides w. -/
def Dv (m w : Nat → Rat) : Prop := ∃ a, Fs a ∧ ∀ i, conv a m i = w i
/-- m is a combination of w and t. -/
def Bz (m w t : Nat → Rat) : Prop := ∃ a b, Fs a ∧ Fs b ∧ ∀ i, m i = conv a w i + conv b t i
theorem conv_one (P : Nat → Rat) (j : Nat) : conv (cf [1]) P j = P j := by
  have := mono_conv 1 0 P j
  unfold shf at this
  rw [if_pos (Nat.zero_le _)] at this
  have e : mono 1 0 = [1] := rfl
  rw [e] at this; rw [this]; grind
theorem Dv.const {k : Rat} (hk : k ≠ 0) {m w : Nat → Rat} (h : ∀ i, m i = k * w i) : Dv m w := by
  refine ⟨fun i => k⁻¹ * cf [1] i, (Fs.cf [1]).smul _, fun i => ?_⟩
  rw [conv_smul, conv_one, h]; grind

theorem monicc {κ D N Γ : Nat} {c w r : List Rat} {γ : Int} (hc : Fac κ c) (hγ : cf c (c.length - 1) = (γ : Rat)) (hΓ : γ.natAbs ≤ Γ) (hNw : NT w) (h0 : w ≠ []) (hNr : NT r) (hr : ∀ i, cf r i = conv (cf w) (cf c) i) (hw : bdL D N w) (hD : 0 < D) (lD : Lo9 D) (lN : Lo9 (κ * N)) :
    ∃ g w3 E k, monicO r = some g ∧ NT g ∧ NT w3 ∧ (∀ i, cf g i = conv (cf w3) (cf c) i) ∧ g.length = r.length ∧ w3.length = w.length ∧ cf g (g.length - 1) = 1 ∧ 0 < E ∧ E ≤ Γ * N ∧ bdL E N w3 ∧ k ≠ 0 ∧ ∀ i, cf w3 i = k * cf w i := by
  have hwl : 0 < w.length := List.length_pos_iff.2 h0
  have hcl : 0 < c.length := List.length_pos_iff.2 hc.ne
  obtain ⟨hrl, hrt⟩ := fac_len hc.ne hc.nt hNw h0 hNr hr
  have hr0 : r ≠ [] := fun e => by rw [e] at hrl; simp at hrl; omega
  have hlw : cf w (w.length - 1) ≠ 0 := hNw.lead h0
  have hlc : cf c (c.length - 1) ≠ 0 := hc.nt.lead hc.ne
  have hlr : cf r (r.length - 1) ≠ 0 := hNr.lead hr0
  have hlim : ∀ i, lim 99 (cf r i) := fun i => by rw [hr]; exact (hc.kb hw i).lim99 hD lD lN
  obtain ⟨g, g1, g2, g3⟩ := tab_all (g := fun i => divQ (cf r i) (cf r (r.length - 1))) (n := r.length) (fun i => cf r i / cf r (r.length - 1)) (fun i _ => quo_ok9 (hlim i) (hlim _) hlr)
  generalize hk : (cf r (r.length - 1))⁻¹ = k at *
  have hk1 : k * cf r (r.length - 1) = 1 := by rw [← hk]; grind
  have hk0 : k ≠ 0 := fun e => by rw [e] at hk1; exact absurd hk1 (by grind)
  have hgc : ∀ i, cf g i = k * cf r i := fun i => by
    by_cases c : i < r.length
    · rw [g3 i c, ← hk]; grind
    · rw [cf_past (l := g) (by omega), cf_past (l := r) (by omega)]; grind
  have hW := lst_cf (n := w.length) (F := fun i => k * cf w i) (fun i hi => by rw [cf_past hi]; grind)
  have hWl := lst_len w.length (fun i => k * cf w i)
  have hWn := lst_NT w.length (fun i => k * cf w i)
  generalize lst w.length (fun i => k * cf w i) = w3 at hW hWl hWn
  have hWl2 : w3.length = w.length := by
    rcases Nat.lt_or_ge w3.length w.length with c | c
    · have := hW (w.length - 1)
      rw [cf_past (l := w3) (by omega)] at this
      rcases Rat.mul_eq_zero.1 this.symm with e | e
      · exact absurd e hk0
      · exact absurd e hlw
    · omega
  have hg1 : cf g (g.length - 1) = 1 := by rw [hgc, g2, hk1]
  obtain ⟨z, hz1, hz2⟩ := hw (w.length - 1)
  have hDr : (D : Rat) ≠ 0 := by
    intro e
    have : D = 0 := by exact_mod_cast e
    omega
  have hz0 : z ≠ 0 := fun e => by
    rw [e] at hz2
    rcases Rat.mul_eq_zero.1 (hz2.trans (by rfl)) with c | c
    · exact hlw c
    · exact hDr c
  have hγ0 : γ ≠ 0 := fun e => by rw [e] at hγ; exact hlc (hγ.trans (by rfl))
  have hkz : k * ((z : Rat) * (γ : Rat)) = (D : Rat) := by
    rw [← hz2, ← hγ]
    have : k * (cf w (w.length - 1) * cf c (c.length - 1)) = 1 := by rw [← hrt, hk1]
    have e : k * (cf w (w.length - 1) * (D : Rat) * cf c (c.length - 1)) = k * (cf w (w.length - 1) * cf c (c.length - 1)) * (D : Rat) := by grind
    rw [e, this]; grind
  have hzγ : z * γ ≠ 0 := Int.mul_ne_zero hz0 hγ0
  obtain ⟨e, he, hAe⟩ : ∃ e : Int, (e = 1 ∨ e = -1) ∧ (((z * γ).natAbs : Nat) : Rat) = (e : Rat) * ((z * γ : Int) : Rat) := by
    by_cases c : 0 ≤ z * γ
    · exact ⟨1, Or.inl rfl, by
        have h1 : (((z * γ).natAbs : Nat) : Int) = z * γ := by omega
        have h2 : (((z * γ).natAbs : Nat) : Rat) = ((z * γ : Int) : Rat) := by rw [← h1]; rfl
        rw [h2]; grind⟩
    · exact ⟨-1, Or.inr rfl, by
        have h1 : (((z * γ).natAbs : Nat) : Int) = -(z * γ) := by omega
        have h2 : (((z * γ).natAbs : Nat) : Rat) = ((-(z * γ) : Int) : Rat) := by rw [← h1]; rfl
        rw [h2, Rat.intCast_neg, Rat.intCast_neg]; grind⟩
  have he1 : e.natAbs = 1 := by rcases he with c | c <;> rw [c] <;> rfl
  refine ⟨g, w3, (z * γ).natAbs, k, ?_, Or.inr (by rw [hg1]; decide), hWn, fun i => ?_, g2, hWl2, hg1, by omega, ?_, fun i => ?_, hk0, hW⟩
  · unfold monicO; rw [if_neg hr0]; exact g1
  · rw [hgc, hr, ← conv_smul]; exact conv_congr (fun i => (hW i).symm) (fun _ => rfl) i
  · rw [Int.natAbs_mul, Nat.mul_comm]; exact Nat.mul_le_mul hΓ hz1
  · obtain ⟨y, hy1, hy2⟩ := hw i
    refine ⟨e * y, by rw [Int.natAbs_mul, he1, Nat.one_mul]; exact hy1, ?_⟩
    rw [hW, hAe, Rat.intCast_mul, Rat.intCast_mul, ← hy2, ← hkz]; grind

theorem monic_const {κ Γ : Nat} {c w g : List Rat} {γ : Int} (hc : Fac κ c) (hγ : cf c (c.length - 1) = (γ : Rat)) (hΓ : γ.natAbs ≤ Γ) (hNw : NT w) (hl : w.length = 1) (hNg : NT g) (hg : ∀ i, cf g i = conv (cf w) (cf c) i) (h1 : cf g (g.length - 1) = 1) :
    ∃ G, 0 < G ∧ G ≤ Γ ∧ bdL G 1 w := by
  have hw0 : w ≠ [] := fun e => by rw [e] at hl; simp at hl
  have ht := (fac_len hc.ne hc.nt hNw hw0 hNg hg).2
  rw [h1, hl, hγ] at ht
  have hγ0 : γ ≠ 0 := fun e => by
    rw [e] at ht
    have : (1 : Rat) = cf w (1 - 1) * 0 := ht
    exact absurd this (by grind)
  refine ⟨γ.natAbs, by omega, hΓ, fun i => ?_⟩
  by_cases hi : i = 0
  · subst hi
    by_cases c : 0 ≤ γ
    · refine ⟨1, by decide, ?_⟩
      have h1 : ((γ.natAbs : Nat) : Int) = γ := by omega
      have h2 : ((γ.natAbs : Nat) : Rat) = (γ : Rat) := by
        have : ((γ.natAbs : Nat) : Rat) = (((γ.natAbs : Nat) : Int) : Rat) := rfl
        rw [this, h1]
      rw [h2]; exact ht.symm
    · refine ⟨-1, by decide, ?_⟩
      have h1 : ((γ.natAbs : Nat) : Int) = -γ := by omega
      have h2 : ((γ.natAbs : Nat) : Rat) = ((-γ : Int) : Rat) := by
        have : ((γ.natAbs : Nat) : Rat) = (((γ.natAbs : Nat) : Int) : Rat) := rfl
        rw [this, h1]
      have e : cf w 0 * (γ : Rat) = 1 := ht.symm
      rw [h2, Rat.intCast_neg, Rat.intCast_neg]
      have : ((1 : Int) : Rat) = 1 := rfl
      rw [this, ← e]; grind
  · rw [cf_past (by omega)]; exact bd.zero _ _

/-- A reckoning of sizes: whether Euclid's algorithm does not fail for polynomials of lengths lw, lt and sizes N over D, M over E. -/
def chk (κ Γ : Nat) : Nat → Nat → Nat → Nat → Nat → Nat → Nat → Bool
  | 0, _, _, _, _, _, _ => false
  | f + 1, lw, lt, D, N, E, M =>
    if lt = 0 then decide (Lo9 D) && decide (Lo9 (κ * N))
    else decide (Lo9 E) && (decide (Lo9 (κ * M)) && (decide (Lo9 (D * M ^ (lw + 1 - lt))) && (decide (Lo9 (κ * (N * (2 * M) ^ (lw + 1 - lt)))) &&
      (((List.range (lw + 1 - lt)).all fun j => decide (Lo9 (N * E * (2 * M) ^ j))) && (List.range lt).all fun l => chk κ Γ f lt l E M (if l = 1 then Γ + 1 else Γ * (N * (2 * M) ^ (lw + 1 - lt)) + 1) (if l = 1 then 1 else N * (2 * M) ^ (lw + 1 - lt))))))

theorem eucl {κ Γ : Nat} {c : List Rat} {γ : Int} (hc : Fac κ c) (hγ : cf c (c.length - 1) = (γ : Rat)) (hΓ : γ.natAbs ≤ Γ) (f : Nat) :
    ∀ (n Db N Eb M D E : Nat) (w t p q : List Rat), chk κ Γ f w.length t.length Db N Eb M = true → f ≤ n + 1 → NT w → NT t → NT p → NT q → (∀ i, cf p i = conv (cf w) (cf c) i) → (∀ i, cf q i = conv (cf t) (cf c) i) →
      bdL D N w → 0 < D → D ≤ Db → bdL E M t → 0 < E → E ≤ Eb → (w ≠ [] ∨ t ≠ []) →
      ∃ g m, gcdO n p q = some g ∧ NT g ∧ NT m ∧ m ≠ [] ∧ (∀ i, cf g i = conv (cf m) (cf c) i) ∧ cf g (g.length - 1) = 1 ∧ Dv (cf m) (cf w) ∧ Dv (cf m) (cf t) ∧ Bz (cf m) (cf w) (cf t) := by
  induction f with
  | zero => intro n Db N Eb M D E w t p q h; exact absurd h (by simp [chk])
  | succ f ih =>
    intro n Db N Eb M D E w t p q h hf hNw hNt hNp hNq hp hq hw hD hDb ht hE hEb hne
    unfold chk at h
    by_cases ht0 : t = []
    · subst ht0
      rw [if_pos (show ([] : List Rat).length = 0 from rfl), Bool.and_eq_true] at h
      have l1 := of_decide_eq_true h.1
      have l2 := of_decide_eq_true h.2
      have hw0 : w ≠ [] := hne.resolve_right (fun k => k rfl)
      have hq0 := fac_nil hNq hq
      subst hq0
      obtain ⟨g, m, E', k, g1, g2, g3, g4, g5, g6, g7, g8, g9, g10, g11, g12⟩ := monicc hc hγ hΓ hNw hw0 hNp hp hw hD (l1.mono hDb) l2
      refine ⟨g, m, ?_, g2, g3, fun e => ?_, g4, g7, Dv.const g11 g12, ⟨fun _ => 0, ⟨0, fun _ _ => rfl⟩, fun i => conv_zero (fun _ => rfl) i⟩, ⟨fun i => k * cf [1] i, fun _ => 0, (Fs.cf [1]).smul _, ⟨0, fun _ _ => rfl⟩, fun i => ?_⟩⟩
      · cases n with
        | zero => exact g1
        | succ n => show (if _ then _ else _) = _; rw [if_pos rfl]; exact g1
      · rw [e] at g6; exact hw0 (List.eq_nil_of_length_eq_zero g6.symm)
      · rw [conv_smul, conv_one, conv_zero (fun _ => rfl), g12]; grind
    · have htl : 0 < t.length := List.length_pos_iff.2 ht0
      rw [if_neg (by omega)] at h
      simp only [Bool.and_eq_true, decide_eq_true_eq, List.all_eq_true, List.mem_range] at h
      obtain ⟨l1, l2, l3, l4, l5, l6⟩ := h
      have hcl : 0 < c.length := List.length_pos_iff.2 hc.ne
      have hql := (fac_len hc.ne hc.nt hNt ht0 hNq hq).1
      have hq0 : q ≠ [] := fun e => by rw [e] at hql; simp at hql; omega
      obtain ⟨n', rfl⟩ : ∃ n', n = n' + 1 := by
        refine ⟨n - 1, ?_⟩
        have : f ≠ 0 := fun e => by have := l6 0 htl; rw [e] at this; exact absurd this (by simp [chk])
        omega
      generalize hj : w.length + 1 - t.length = j at *
      obtain ⟨u, r, w', A, k1, k2, k3, k4, k5, k6, k7, k8, k9, k10, k11, k12⟩ := byc_ok hc hw hD hNw hNp hp ht hE ht0 hNt hNq hq hj.symm (l1.mono hEb) l2 (l3.mono (Nat.mul_le_mul_right _ hDb)) (by rw [Nat.mul_assoc]; exact l4)
        (fun i hi => (l5 i hi).mono (Nat.mul_le_mul_right _ (Nat.mul_le_mul_left _ hEb)))
      have hA : D * A ^ j ≤ Db * M ^ j := Nat.mul_le_mul hDb (Nat.pow_le_pow_left k3 _)
      -- what is next
      have key : ∃ q3 w3 E3 k, monicO r = some q3 ∧ NT q3 ∧ NT w3 ∧ (∀ i, cf q3 i = conv (cf w3) (cf c) i) ∧ w3.length = w'.length ∧ 0 < E3 ∧ E3 ≤ (if w'.length = 1 then Γ + 1 else Γ * (N * (2 * M) ^ j) + 1) ∧ bdL E3 (if w'.length = 1 then 1 else N * (2 * M) ^ j) w3 ∧ k ≠ 0 ∧ ∀ i, cf w3 i = k * cf w' i := by
        by_cases e : w' = []
        · subst e
          have hr0 := fac_nil k5 k8
          subst hr0
          exact ⟨[], [], 1, 1, rfl, Or.inl rfl, Or.inl rfl, k8, rfl, by omega, by rw [if_neg (by decide)]; omega, fun i => bd.zero _ _, by decide, fun i => by rw [cf_nil]; grind⟩
        · obtain ⟨g, m, E', k, g1, g2, g3, g4, g5, g6, g7, g8, g9, g10, g11, g12⟩ := monicc hc hγ hΓ k6 e k5 k8 k11 (Nat.mul_pos hD (Nat.pow_pos k2)) (l3.mono hA) l4
          by_cases l1 : w'.length = 1
          · obtain ⟨G, hG1, hG2, hG3⟩ := monic_const hc hγ hΓ g3 (g6.trans l1) g2 g4 g7
            exact ⟨g, m, G, k, g1, g2, g3, g4, g6, hG1, by rw [if_pos l1]; omega, by rw [if_pos l1]; exact hG3, g11, g12⟩
          · exact ⟨g, m, E', k, g1, g2, g3, g4, g6, g8, by rw [if_neg l1]; omega, by rw [if_neg l1]; exact g10, g11, g12⟩
      obtain ⟨q3, w3, E3, k, m1, m2, m3, m4, m5, m6, m7, m8, m9, m10⟩ := key
      obtain ⟨g, m, i1, i2, i3, i4, i5, i6, i7, i8, i9⟩ := ih n' Eb M (if w'.length = 1 then Γ + 1 else Γ * (N * (2 * M) ^ j) + 1) (if w'.length = 1 then 1 else N * (2 * M) ^ j) E E3 t w3 q q3 (by rw [m5]; exact l6 _ k7) (by omega) hNt m3 hNq m2 hq m4 ht hE hEb m8 m6 m7 (Or.inl ht0)
      have hw' : ∀ i, cf w' i = cf w i - conv (cf u) (cf t) i := fun i => by have := k10 i; grind
      refine ⟨g, m, ?_, i2, i3, i4, i5, i6, ?_, i7, ?_⟩
      · show (if _ then _ else _) = _
        rw [if_neg hq0, k1]
        show (monicO r).bind _ = _
        rw [m1]; exact i1
      · obtain ⟨a, a1, a2⟩ := i7
        obtain ⟨b, b1, b2⟩ := i8
        refine ⟨fun i => conv (cf u) a i + k⁻¹ * b i, ((Fs.cf u).conv a1).add (b1.smul _), fun i => ?_⟩
        rw [conv_addl, conv_smul, conv_assoc, conv_congr (P := cf u) (fun _ => rfl) a2, b2, m10, hw']
        grind
      · obtain ⟨a, b, a1, b1, ab⟩ := i9
        refine ⟨fun i => k * b i, fun i => a i - k * conv b (cf u) i, b1.smul _, a1.sub ((b1.conv (Fs.cf u)).smul _), fun i => ?_⟩
        have e1 : conv b (cf w3) i = k * (conv b (cf w) i - conv b (fun i => conv (cf u) (cf t) i) i) := by
          rw [conv_congr (P := b) (fun _ => rfl) m10, conv_smulr, conv_congr (P := b) (fun _ => rfl) hw', conv_subr]
        rw [ab, e1, conv_sub, conv_smul, conv_smul, conv_assoc]
        grind

end Go.Proofs.YtffndcjmabjhiaaGreatDoor

namespace Go.Proofs.YtffndcjmabjhiaaGreatDoor
open Num

/-- All values of F are multiples of d. -/
def Dz (d : Nat) (F : Nat → Rat) : Prop := ∀ i, ∃ z : Int, F i = (d : Rat) * (z : Rat)
/-- F has no divisor in common with d, but 1. -/
def Cop (F : Nat → Rat) (d : Nat) : Prop := ∀ e : Nat, e ∣ d → Dz e F → e = 1
theorem Dz.congr {d : Nat} {F G : Nat → Rat} (h : Dz d F) (k : ∀ i, F i = G i) : Dz d G := fun i => by rw [← k]; exact h i
theorem Dz.add {d : Nat} {F G : Nat → Rat} (h : Dz d F) (k : Dz d G) : Dz d fun i => F i + G i := fun i => by
  obtain ⟨x, hx⟩ := h i
  obtain ⟨y, hy⟩ := k i
  exact ⟨x + y, by show F i + G i = _; rw [hx, hy, Rat.intCast_add]; grind⟩
theorem Dz.sub {d : Nat} {F G : Nat → Rat} (h : Dz d F) (k : Dz d G) : Dz d fun i => F i - G i := fun i => by
  obtain ⟨x, hx⟩ := h i
  obtain ⟨y, hy⟩ := k i
  exact ⟨x - y, by show F i - G i = _; rw [hx, hy, Rat.intCast_sub]; grind⟩
theorem dz_sum {d : Nat} {g : Nat → Rat} (n : Nat) (h : ∀ i, i < n → ∃ z : Int, g i = (d : Rat) * (z : Rat)) : ∃ z : Int, sumN g n = (d : Rat) * (z : Rat) := by
  induction n with
  | zero => exact ⟨0, by show (0 : Rat) = _; have : ((0 : Int) : Rat) = 0 := rfl; rw [this]; grind⟩
  | succ n ih =>
    obtain ⟨x, hx⟩ := ih fun i hi => h i (by omega)
    obtain ⟨y, hy⟩ := h n (by omega)
    exact ⟨x + y, by rw [sumN, hx, hy, Rat.intCast_add]; grind⟩
theorem Dz.conv {d e : Nat} {F G : Nat → Rat} (h : Dz d F) (k : Dz e G) : Dz (d * e) (conv F G) := fun j => by
  refine dz_sum (g := fun i => F i * G (j - i)) (j + 1) fun i _ => ?_
  obtain ⟨x, hx⟩ := h i
  obtain ⟨y, hy⟩ := k (j - i)
  exact ⟨x * y, by rw [hx, hy, Rat.intCast_mul, Rat.natCast_mul]; grind⟩
theorem Dz.mono {d e : Nat} {F : Nat → Rat} (h : Dz d F) (k : e ∣ d) : Dz e F := fun i => by
  obtain ⟨x, hx⟩ := h i
  obtain ⟨c, rfl⟩ := k
  exact ⟨(c : Int) * x, by rw [hx, Rat.intCast_mul, Rat.natCast_mul]; have : ((c : Int) : Rat) = (c : Rat) := rfl; rw [this]; grind⟩
theorem nat_ne {d : Nat} (h : 0 < d) : (d : Rat) ≠ 0 := by
  intro e
  have : d = 0 := by exact_mod_cast e
  omega
/-- One value alone. -/
def one1 (n : Nat) (x : Rat) (i : Nat) : Rat := if i = n then x else 0
theorem Dz.one {d n : Nat} {x : Rat} (h : ∃ z : Int, x = (d : Rat) * (z : Rat)) : Dz d (one1 n x) := fun i => by
  unfold one1; split
  · exact h
  · exact ⟨0, by have : ((0 : Int) : Rat) = 0 := rfl; rw [this]; grind⟩

theorem gauss : ∀ (k n m d : Nat) (F G : Nat → Rat), n + m ≤ k → 0 < d → (∀ i, n ≤ i → F i = 0) → (∀ i, m ≤ i → G i = 0) → Dz 1 F → Dz 1 G → Cop F d → Dz d (conv F G) → Dz d G := by
  intro k
  induction k with
  | zero =>
    intro n m d F G hk hd hF hG _ _ _ _ i
    exact ⟨0, by rw [hG i (by omega)]; have : ((0 : Int) : Rat) = 0 := rfl; rw [this]; grind⟩
  | succ k ih =>
    intro n m d F G hk hd hF hG zF zG hc h
    by_cases hm : m = 0
    · exact fun i => ⟨0, by rw [hG i (by omega)]; have : ((0 : Int) : Rat) = 0 := rfl; rw [this]; grind⟩
    by_cases hn : n = 0
    · have : d = 1 := hc d (Nat.dvd_refl d) fun i => ⟨0, by rw [hF i (by omega)]; have : ((0 : Int) : Rat) = 0 := rfl; rw [this]; grind⟩
      rw [this]; exact zG
    obtain ⟨a, rfl⟩ : ∃ a, n = a + 1 := ⟨n - 1, by omega⟩
    obtain ⟨b, rfl⟩ : ∃ b, m = b + 1 := ⟨m - 1, by omega⟩
    have r1 : ((1 : Nat) : Rat) = 1 := rfl
    obtain ⟨x, hx⟩ := zF a
    obtain ⟨y, hy⟩ := zG b
    obtain ⟨z, hz⟩ := h (a + b)
    have top := conv_top (P := F) (Q := G) (t := a) (m := b) (fun i hi => hF i (by omega)) (fun i hi => hG i (by omega))
    rw [r1] at hx hy
    have hxyz : x * y = (d : Int) * z := by
      have : ((x * y : Int) : Rat) = (((d : Int) * z : Int) : Rat) := by
        rw [Rat.intCast_mul, Rat.intCast_mul]
        have e : ((d : Int) : Rat) = (d : Rat) := rfl
        rw [e, ← hz, top, hx, hy]; grind
      exact Rat.intCast_inj.1 this
    -- d = d1 * d2
    have hg0 : 0 < Nat.gcd d x.natAbs := Nat.gcd_pos_of_pos_left _ hd
    obtain ⟨d2, hd2⟩ := Nat.gcd_dvd_left d x.natAbs
    obtain ⟨x1, hx1⟩ := Nat.gcd_dvd_right d x.natAbs
    have hcop : Nat.Coprime d2 x1 := by
      have := Nat.gcd_mul_left (Nat.gcd d x.natAbs) d2 x1
      rw [← hd2, ← hx1] at this
      have e : Nat.gcd d x.natAbs * 1 = Nat.gcd d x.natAbs * Nat.gcd d2 x1 := by rw [Nat.mul_one]; exact this
      exact (Nat.eq_of_mul_eq_mul_left hg0 e).symm
    generalize hd1 : Nat.gcd d x.natAbs = d1 at *
    have hd20 : 0 < d2 := Nat.pos_of_ne_zero fun e => by rw [e] at hd2; omega
    have hyd : d2 ∣ y.natAbs := by
      have e1 : x.natAbs * y.natAbs = d * z.natAbs := by rw [← Int.natAbs_mul, hxyz, Int.natAbs_mul, Int.natAbs_natCast]
      rw [hx1, hd2, Nat.mul_assoc, Nat.mul_assoc] at e1
      have e2 := Nat.eq_of_mul_eq_mul_left hg0 e1
      exact hcop.dvd_of_dvd_mul_left ⟨z.natAbs, e2⟩
    have hY : ∃ z : Int, G b = (d2 : Rat) * (z : Rat) := by
      obtain ⟨c, hc⟩ := Int.ofNat_dvd_left.2 hyd
      exact ⟨c, by
        rw [hy, hc, Rat.intCast_mul]
        have e : ((d2 : Int) : Rat) = (d2 : Rat) := rfl
        rw [e]; grind⟩
    have hX : ∃ z : Int, F a = (d1 : Rat) * (z : Rat) := by
      obtain ⟨c, hc⟩ := Int.ofNat_dvd_left.2 (⟨x1, hx1⟩ : d1 ∣ x.natAbs)
      exact ⟨c, by
        rw [hx, hc, Rat.intCast_mul]
        have e : ((d1 : Int) : Rat) = (d1 : Rat) := rfl
        rw [e]; grind⟩
    have h2 : d2 ∣ d := ⟨d1, by rw [hd2, Nat.mul_comm]⟩
    have h1 : d1 ∣ d := ⟨d2, hd2⟩
    -- modulo d2, G's top vanishes
    have s1 : Dz d2 fun i => G i - one1 b (G b) i := by
      refine ih (a + 1) b d2 F _ (by omega) hd20 hF (fun i hi => ?_) zF ?_ (fun e he k => hc e (Nat.dvd_trans he h2) k) ?_
      · unfold one1; split
        · next e => rw [e]; grind
        · rw [hG i (by omega)]; grind
      · exact zG.sub (Dz.one (by obtain ⟨z, hz⟩ := zG b; exact ⟨z, hz⟩))
      · have e := ((h.mono h2).sub ((Dz.conv zF (Dz.one (n := b) hY)).mono (by rw [Nat.one_mul]; exact Nat.dvd_refl d2)))
        exact e.congr fun i => (conv_subr F G (one1 b (G b)) i).symm
    have s2 : Dz d2 G := (s1.add (Dz.one (n := b) hY)).congr fun i => by grind
    -- G is d2 times H
    have hH : Dz 1 fun i => (d2 : Rat)⁻¹ * G i := fun i => by
      obtain ⟨z, hz⟩ := s2 i
      exact ⟨z, by show (d2 : Rat)⁻¹ * G i = _; rw [hz, r1]; have := nat_ne hd20; grind⟩
    have hHc : Dz d1 (conv F fun i => (d2 : Rat)⁻¹ * G i) := fun i => by
      obtain ⟨z, hz⟩ := h i
      exact ⟨z, by rw [conv_smulr, hz, hd2, Rat.natCast_mul]; have := nat_ne hd20; grind⟩
    have s3 : Dz d1 fun i => (d2 : Rat)⁻¹ * G i := by
      refine ih a (b + 1) d1 (fun i => F i - one1 a (F a) i) _ (by omega) (by omega) (fun i hi => ?_) (fun i hi => by show (d2 : Rat)⁻¹ * G i = 0; rw [hG i hi]; grind) ?_ hH (fun e he k => ?_) ?_
      · unfold one1; split
        · next e => rw [e]; grind
        · rw [hF i (by omega)]; grind
      · exact zF.sub (Dz.one (by obtain ⟨z, hz⟩ := zF a; exact ⟨z, hz⟩))
      · refine hc e (Nat.dvd_trans he h1) ((k.add ((Dz.one (n := a) hX).mono he)).congr fun i => by grind)
      · have e := hHc.sub ((Dz.conv (Dz.one (n := a) hX) hH).mono (by rw [Nat.mul_one]; exact Nat.dvd_refl d1))
        exact e.congr fun i => (conv_sub F (one1 a (F a)) (fun i => (d2 : Rat)⁻¹ * G i) i).symm
    exact fun i => by
      obtain ⟨z, hz⟩ := s3 i
      have hz' : (d2 : Rat)⁻¹ * G i = (d1 : Rat) * (z : Rat) := hz
      exact ⟨z, by rw [hd2, Rat.natCast_mul]; have := nat_ne hd20; grind⟩

/-- A function with integer values is a multiple of one without divisors. -/
theorem primitive : ∀ (k : Nat) (F : Nat → Rat) (n : Nat) (z : Int), z.natAbs ≤ k → z ≠ 0 → F n = (z : Rat) → Dz 1 F → ∃ e : Nat, 0 < e ∧ Dz e F ∧ ∀ d, Dz d (fun i => (e : Rat)⁻¹ * F i) → d = 1 := by
  intro k
  induction k with
  | zero => intro F n z h h0; omega
  | succ k ih =>
    intro F n z h h0 hz hF
    have r1 : ((1 : Nat) : Rat) = 1 := rfl
    by_cases hp : ∀ d, Dz d F → d = 1
    · refine ⟨1, by decide, hF, fun d hd => hp d (hd.congr fun i => ?_)⟩
      rw [r1]; grind
    · obtain ⟨d, hd⟩ := Classical.not_forall.1 hp
      obtain ⟨hd, hd1⟩ := Classical.not_imp.1 hd
      obtain ⟨y, hy⟩ := hd n
      have hzy : z = (d : Int) * y := by
        have : ((z : Int) : Rat) = (((d : Int) * y : Int) : Rat) := by
          rw [Rat.intCast_mul, ← hz, hy]; rfl
        exact Rat.intCast_inj.1 this
      have hd0 : 0 < d := Nat.pos_of_ne_zero fun e => by rw [e] at hzy; apply h0; rw [hzy]; simp
      have hy0 : y ≠ 0 := fun e => h0 (by rw [hzy, e]; simp)
      have hlt : y.natAbs < z.natAbs := by
        rw [hzy, Int.natAbs_mul, Int.natAbs_natCast]
        have h1 : 2 ≤ d := by omega
        have h2 : 1 ≤ y.natAbs := by omega
        calc y.natAbs < 2 * y.natAbs := by omega
          _ ≤ d * y.natAbs := Nat.mul_le_mul_right _ h1
      have hdr := nat_ne hd0
      obtain ⟨e, he, h1, h2⟩ := ih (fun i => (d : Rat)⁻¹ * F i) n y (by omega) hy0 (by show (d : Rat)⁻¹ * F n = _; rw [hy]; grind) (fun i => by
        obtain ⟨x, hx⟩ := hd i
        exact ⟨x, by show (d : Rat)⁻¹ * F i = _; rw [hx, r1]; grind⟩)
      have her := nat_ne he
      refine ⟨d * e, Nat.mul_pos hd0 he, fun i => ?_, fun c hc => h2 c (hc.congr fun i => ?_)⟩
      · obtain ⟨x, hx⟩ := h1 i
        have hx' : (d : Rat)⁻¹ * F i = (e : Rat) * (x : Rat) := hx
        exact ⟨x, by rw [Rat.natCast_mul]; grind⟩
      · show ((d * e : Nat) : Rat)⁻¹ * F i = (e : Rat)⁻¹ * ((d : Rat)⁻¹ * F i)
        rw [Rat.natCast_mul]
        have : ((d : Rat) * (e : Rat)) ≠ 0 := fun c => by
          rcases Rat.mul_eq_zero.1 c with c | c
          · exact hdr c
          · exact her c
        grind
/-- A common denominator. -/
theorem common_den (F : Nat → Rat) (n : Nat) : ∃ D : Nat, 0 < D ∧ ∀ i, i < n → ∃ z : Int, (D : Rat) * F i = (z : Rat) := by
  induction n with
  | zero => exact ⟨1, by decide, fun i hi => by omega⟩
  | succ n ih =>
    obtain ⟨D, h0, h⟩ := ih
    have hq : ((F n).den : Rat) * F n = ((F n).num : Rat) := by
      have hd : ((F n).den : Rat) ≠ 0 := nat_ne (F n).den_pos
      have e : F n = Rat.divInt (F n).num (F n).den := (Rat.num_divInt_den (F n)).symm
      have e2 := Rat.divInt_eq_div (F n).num (F n).den
      rw [← e] at e2
      have : (((F n).den : Int) : Rat) = ((F n).den : Rat) := rfl
      rw [this] at e2
      generalize ((F n).den : Rat) = dd at *
      rw [e2]; grind
    refine ⟨D * (F n).den, Nat.mul_pos h0 (F n).den_pos, fun i hi => ?_⟩
    by_cases c : i < n
    · obtain ⟨z, hz⟩ := h i c
      exact ⟨z * ((F n).den : Int), by
        rw [Rat.intCast_mul, ← hz, Rat.natCast_mul]
        have : (((F n).den : Int) : Rat) = ((F n).den : Rat) := rfl
        rw [this]; grind⟩
    · obtain rfl : i = n := by omega
      exact ⟨(D : Int) * (F i).num, by
        rw [Rat.intCast_mul, ← hq, Rat.natCast_mul]
        have : ((D : Int) : Rat) = (D : Rat) := rfl
        rw [this]; grind⟩
theorem Fs.den {F : Nat → Rat} (h : Fs F) : ∃ D : Nat, 0 < D ∧ Dz 1 fun i => (D : Rat) * F i := by
  obtain ⟨n, h⟩ := h
  obtain ⟨D, h0, k⟩ := common_den F n
  refine ⟨D, h0, fun i => ?_⟩
  have r1 : ((1 : Nat) : Rat) = 1 := rfl
  by_cases c : i < n
  · obtain ⟨z, hz⟩ := k i c
    exact ⟨z, by show (D : Rat) * F i = _; rw [hz, r1]; grind⟩
  · exact ⟨0, by show (D : Rat) * F i = _; rw [h i (by omega)]; have : ((0 : Int) : Rat) = 0 := rfl; rw [this]; grind⟩

/-- A divisor of polynomials with integer coefficients has a multiple with integer coefficients, so that all quotients have them, too. -/
theorem fac_int {m : Nat → Rat} (hm : Fs m) {n : Nat} (h0 : m n ≠ 0) : ∃ l : Rat, l ≠ 0 ∧ Dz 1 (fun i => l * m i) ∧ ∀ (a F : Nat → Rat), Fs a → Dz 1 F → (∀ i, conv a m i = F i) → Dz 1 fun i => l⁻¹ * a i := by
  obtain ⟨D, hD, hz⟩ := hm.den
  have hDr := nat_ne hD
  have r1 : ((1 : Nat) : Rat) = 1 := rfl
  obtain ⟨z, hz1⟩ := hz n
  have hz1' : (D : Rat) * m n = (z : Rat) := by
    have : (D : Rat) * m n = ((1 : Nat) : Rat) * (z : Rat) := hz1
    rw [this, r1]; grind
  have hz0 : z ≠ 0 := fun e => by
    rw [e] at hz1'
    rcases Rat.mul_eq_zero.1 (hz1'.trans (by rfl)) with c | c
    · exact hDr c
    · exact h0 c
  obtain ⟨e, he, h1, h2⟩ := primitive z.natAbs (fun i => (D : Rat) * m i) n z (Nat.le_refl _) hz0 hz1' hz
  have her := nat_ne he
  have hl0 : (e : Rat)⁻¹ * (D : Rat) ≠ 0 := fun c => by
    rcases Rat.mul_eq_zero.1 c with c | c
    · have : (e : Rat) * (e : Rat)⁻¹ = 1 := by grind
      rw [c] at this; exact absurd this (by grind)
    · exact hDr c
  have zG : Dz 1 fun i => (e : Rat)⁻¹ * (D : Rat) * m i := fun i => by
    obtain ⟨x, hx⟩ := h1 i
    have hx' : (D : Rat) * m i = (e : Rat) * (x : Rat) := hx
    exact ⟨x, by show (e : Rat)⁻¹ * (D : Rat) * m i = _; rw [r1]; grind⟩
  have hp : ∀ d, Dz d (fun i => (e : Rat)⁻¹ * (D : Rat) * m i) → d = 1 := fun d hd => h2 d (hd.congr fun i => by grind)
  generalize (e : Rat)⁻¹ * (D : Rat) = l at *
  refine ⟨l, hl0, zG, fun a F ha hF h => ?_⟩
  have hA : Fs fun i => l⁻¹ * a i := ha.smul _
  obtain ⟨u, hu, hv⟩ := hA.den
  have hur := nat_ne hu
  obtain ⟨n1, hn1⟩ := hm
  obtain ⟨n2, hn2⟩ := hA
  have key := gauss _ n1 n2 u (fun i => l * m i) (fun i => (u : Rat) * (l⁻¹ * a i)) (Nat.le_refl _) hu (fun i hi => by show l * m i = 0; rw [hn1 i hi]; grind) (fun i hi => by
    have : l⁻¹ * a i = 0 := hn2 i hi
    show (u : Rat) * (l⁻¹ * a i) = 0; rw [this]; grind) zG hv (fun e _ k => hp e k) (fun i => by
      obtain ⟨x, hx⟩ := hF i
      refine ⟨x, ?_⟩
      rw [conv_smul, conv_smulr, conv_smulr, conv_comm, h, hx, r1]
      have : l * l⁻¹ = 1 := by grind
      grind)
  exact fun i => by
    obtain ⟨x, hx⟩ := key i
    have hx' : (u : Rat) * (l⁻¹ * a i) = (u : Rat) * (x : Rat) := hx
    exact ⟨x, by show l⁻¹ * a i = _; rw [r1]; grind⟩

end Go.Proofs.YtffndcjmabjhiaaGreatDoor

namespace Go.Proofs.YtffndcjmabjhiaaGreatDoor
open Num

/-- How much larger coefficients may be than values. -/
def cI : Nat → Nat
  | 0 => 1
  | n + 1 => 10 * cI n + 1
theorem cI_pos : ∀ n, 1 ≤ cI n
  | 0 => Nat.le_refl 1
  | n + 1 => by unfold cI; omega
theorem bd1_int {B : Nat} {x : Rat} (h : bd 1 B x) : ∃ z : Int, z.natAbs ≤ B ∧ x = (z : Rat) := by
  obtain ⟨z, h1, h2⟩ := h
  refine ⟨z, h1, ?_⟩
  have r1 : ((1 : Nat) : Rat) = 1 := rfl
  rw [r1] at h2; grind
theorem int_bd1 {B : Nat} {x : Rat} {z : Int} (h1 : z.natAbs ≤ B) (h2 : x = (z : Rat)) : bd 1 B x := by
  have r1 : ((1 : Nat) : Rat) = 1 := rfl
  exact ⟨z, h1, by rw [r1, h2]; grind⟩
theorem syn_at (v k : Rat) (p : List Rat) : evP p k = evP (syn v p) k * (k - v) + evP p v := by
  induction p with
  | nil => show (0 : Rat) = 0 * (k - v) + 0; grind
  | cons a l ih =>
    show evP l k * k + a = (evP (syn v l) k * k + evP l v) * (k - v) + (evP l v * v + a)
    rw [ih]; grind
theorem evP_zero {l : List Rat} (h : ∀ i, cf l i = 0) (v : Rat) : evP l v = 0 := (evP_congr (k := []) h).trans rfl
theorem syn_past (v : Rat) (p : List Rat) : ∀ n, (∀ i, n + 1 ≤ i → cf p i = 0) → ∀ i, n ≤ i → cf (syn v p) i = 0 := by
  induction p with
  | nil => intro n _ i _; rfl
  | cons a l ih =>
    intro n h i hi
    have h' : ∀ i, n ≤ i → cf l i = 0 := fun i hi => h (i + 1) (by omega)
    cases i with
    | zero => show evP l v = 0; exact evP_zero (fun i => h' i (by omega)) v
    | succ i =>
      show cf (syn v l) i = 0
      exact ih (n - 1) (fun i hi => h' i (by omega)) i (by omega)
theorem ints_cons {a : Rat} {l : List Rat} (h : Dz 1 (cf (a :: l))) : (∃ z : Int, a = (z : Rat)) ∧ Dz 1 (cf l) := by
  have r1 : ((1 : Nat) : Rat) = 1 := rfl
  refine ⟨?_, fun i => h (i + 1)⟩
  obtain ⟨z, hz⟩ := h 0
  exact ⟨z, by rw [cf_zero, r1] at hz; rw [hz]; grind⟩
theorem evP_int {l : List Rat} (h : Dz 1 (cf l)) (k : Int) : ∃ z : Int, evP l (k : Rat) = (z : Rat) := by
  induction l with
  | nil => exact ⟨0, rfl⟩
  | cons a l ih =>
    obtain ⟨⟨x, hx⟩, h2⟩ := ints_cons h
    obtain ⟨y, hy⟩ := ih h2
    exact ⟨y * k + x, by show evP l (k : Rat) * (k : Rat) + a = _; rw [hx, hy, Rat.intCast_add, Rat.intCast_mul]⟩
theorem syn_int (v : Int) {p : List Rat} (h : Dz 1 (cf p)) : Dz 1 (cf (syn (v : Rat) p)) := by
  induction p with
  | nil => exact h
  | cons a l ih =>
    have h2 := (ints_cons h).2
    intro i
    cases i with
    | zero =>
      obtain ⟨z, hz⟩ := evP_int h2 v
      have r1 : ((1 : Nat) : Rat) = 1 := rfl
      exact ⟨z, by show evP l (v : Rat) = _; rw [hz, r1]; grind⟩
    | succ i => exact ih h2 i
/-- Values at n + 1 integers from -4 to 4 bound the coefficients of a polynomial of degree n. -/
theorem interp : ∀ (n : Nat) (S : List Int) (p : List Rat) (B : Nat), n < S.length → S.Nodup → (∀ k ∈ S, k.natAbs ≤ 4) → Dz 1 (cf p) → (∀ i, n + 1 ≤ i → cf p i = 0) → (∀ k ∈ S, bd 1 B (evP p (k : Rat))) → bdL 1 (cI n * B) p := by
  intro n
  induction n with
  | zero =>
    intro S p B hS _ _ _ hp hB i
    obtain ⟨k, S', rfl⟩ := List.exists_cons_of_length_pos hS
    have := hB k (by simp)
    have e : evP p (k : Rat) = cf p 0 := by
      rw [evP_congr (k := [cf p 0]) (fun i => by
        cases i with
        | zero => rfl
        | succ i => exact hp (i + 1) (by omega))]
      show 0 * (k : Rat) + cf p 0 = _; grind
    rw [e] at this
    rw [show cI 0 * B = B by show 1 * B = B; omega]
    cases i with
    | zero => exact this
    | succ i => rw [hp (i + 1) (by omega)]; exact bd.zero _ _
  | succ n ih =>
    intro S p B hS hN hk4 hz hp hB
    obtain ⟨v, S', rfl⟩ := List.exists_cons_of_length_pos (Nat.zero_lt_of_lt hS)
    have hN' := List.nodup_cons.1 hN
    have hv4 := hk4 v (by simp)
    have hpv := hB v (by simp)
    have hq := ih S' (syn (v : Rat) p) (2 * B) (by simpa using hS) hN'.2 (fun k hk => hk4 k (by simp [hk])) (syn_int v hz) (syn_past _ _ _ hp) (fun k hk => by
      obtain ⟨x, hx1, hx2⟩ := bd1_int (hB k (by simp [hk]))
      obtain ⟨y, hy1, hy2⟩ := bd1_int hpv
      obtain ⟨s, hs⟩ := evP_int (syn_int v hz) k
      refine int_bd1 (z := s) ?_ hs
      have e := syn_at (v : Rat) (k : Rat) p
      rw [hx2, hy2, hs] at e
      have e2 : x = s * (k - v) + y := by
        have : ((x : Int) : Rat) = ((s * (k - v) + y : Int) : Rat) := by rw [e, Rat.intCast_add, Rat.intCast_mul, Rat.intCast_sub]
        exact Rat.intCast_inj.1 this
      have hne : k - v ≠ 0 := fun c => hN'.1 (by rw [show v = k by omega]; exact hk)
      have e3 : s.natAbs * (k - v).natAbs = (x - y).natAbs := by rw [← Int.natAbs_mul]; congr 1; omega
      have h1 : 1 ≤ (k - v).natAbs := by omega
      have h2 : s.natAbs * 1 ≤ s.natAbs * (k - v).natAbs := Nat.mul_le_mul_left _ h1
      omega)
    intro j
    have e := syn_eq (v : Rat) p j
    rw [conv_lin] at e
    have b1 : bd 1 (cI n * (2 * B)) (if 0 < j then cf (syn (v : Rat) p) (j - 1) else 0) := by
      split
      · exact hq _
      · exact bd.zero _ _
    have b2 : bd 1 (4 * (cI n * (2 * B))) ((v : Rat) * cf (syn (v : Rat) p) j) := by
      have h1 : bd 1 4 (v : Rat) := int_bd1 hv4 rfl
      have := h1.mul (hq j)
      rwa [Nat.mul_one] at this
    have b3 : bd 1 B (cf [evP p (v : Rat)] j) := by
      cases j with
      | zero => exact hpv
      | succ j => exact bd.zero _ _
    have b := (b1.sub b2).add b3
    rw [← e] at b
    refine b.mono ?_
    rw [show cI (n + 1) = 10 * cI n + 1 from rfl, Nat.add_mul, Nat.one_mul, Nat.mul_assoc]
    have : cI n * (2 * B) = 2 * (cI n * B) := by rw [← Nat.mul_assoc, Nat.mul_comm (cI n) 2, Nat.mul_assoc]
    omega

/-- Those of some integers at which a polynomial is not zero. -/
def good (p : List Rat) (S : List Int) : List Int := S.filter fun k => evP p (k : Rat) != 0
theorem good_many : ∀ (n : Nat) (p : List Rat) (S : List Int), (∀ i, n + 1 ≤ i → cf p i = 0) → (∃ i, cf p i ≠ 0) → S.Nodup → S.length ≤ (good p S).length + n := by
  intro n
  induction n with
  | zero =>
    intro p S hp hne hS
    have e : ∀ k : Int, evP p (k : Rat) ≠ 0 := fun k => by
      obtain ⟨i, hi⟩ := hne
      have h0 : i = 0 := by
        rcases Nat.eq_zero_or_pos i with c | c
        · exact c
        · exact absurd (hp i c) hi
      rw [h0] at hi
      rw [evP_congr (k := [cf p 0]) (fun i => by
        cases i with
        | zero => rfl
        | succ i => exact hp (i + 1) (by omega))]
      show 0 * (k : Rat) + cf p 0 ≠ 0
      grind
    unfold good
    rw [List.filter_eq_self.2 (fun k _ => by simpa using e k)]
    omega
  | succ n ih =>
    intro p S hp hne hS
    by_cases hr : ∃ v ∈ S, evP p (v : Rat) = 0
    · obtain ⟨v, hvS, hv⟩ := hr
      have hsq : ∀ j, cf p j = conv (cf (syn (v : Rat) p)) (cf [-(v : Rat), 1]) j := fun j => by
        rw [syn_eq (v : Rat) p j, hv]
        have : cf [(0 : Rat)] j = 0 := by cases j <;> rfl
        rw [this]; grind
      have hne2 : ∃ i, cf (syn (v : Rat) p) i ≠ 0 := Classical.byContradiction fun c => by
        have hz : ∀ i, cf (syn (v : Rat) p) i = 0 := fun i => Classical.byContradiction fun k => c ⟨i, k⟩
        obtain ⟨i, hi⟩ := hne
        exact hi (by rw [hsq, conv_zero hz])
      have h := ih (syn (v : Rat) p) (S.erase v) (syn_past _ _ _ hp) hne2 (hS.erase v)
      have hle : (good (syn (v : Rat) p) (S.erase v)).length ≤ (good p S).length := by
        unfold good
        have h1 : (S.erase v).filter (fun k : Int => evP (syn (v : Rat) p) (k : Rat) != 0) = (S.erase v).filter (fun k : Int => evP p (k : Rat) != 0) := by
          refine List.filter_congr fun k hk => ?_
          have hkv : k ≠ v := (hS.mem_erase_iff.1 hk).1
          have e := syn_at (v : Rat) (k : Rat) p
          rw [hv] at e
          have hd : (k : Rat) - (v : Rat) ≠ 0 := fun c => hkv (by
            have : ((k : Int) : Rat) = (v : Rat) := by grind
            exact Rat.intCast_inj.1 this)
          have : (evP p (k : Rat) = 0) ↔ (evP (syn (v : Rat) p) (k : Rat) = 0) := by
            rw [e]
            constructor
            · intro c
              have c' : evP (syn (v : Rat) p) (k : Rat) * ((k : Rat) - (v : Rat)) = 0 := by grind
              rcases Rat.mul_eq_zero.1 c' with c | c
              · exact c
              · exact absurd c hd
            · intro c; rw [c]; grind
          by_cases c : evP p (k : Rat) = 0
          · rw [c, this.1 c]
          · have c2 := fun k => c (this.2 k)
            rw [bne_iff_ne.2 c, bne_iff_ne.2 c2]
        rw [h1]
        exact ((List.erase_sublist (a := v) (l := S)).filter _).length_le
      have hl : S.length = (S.erase v).length + 1 := by
        rw [List.length_erase_of_mem hvS]
        have := List.length_pos_of_mem hvS
        omega
      omega
    · unfold good
      rw [List.filter_eq_self.2 (fun k hk => by simpa using fun c => hr ⟨k, hk, c⟩)]
      omega

end Go.Proofs.YtffndcjmabjhiaaGreatDoor

namespace Go.Proofs.YtffndcjmabjhiaaGreatDoor
open Num

/-- A list, times a number. -/
def scl (k : Rat) (l : List Rat) : List Rat := lst l.length fun i => k * cf l i
theorem scl_cf (k : Rat) (l : List Rat) (i : Nat) : cf (scl k l) i = k * cf l i := lst_cf (fun i hi => by rw [cf_past hi]; grind) i
theorem scl_NT (k : Rat) (l : List Rat) : NT (scl k l) := lst_NT _ _
theorem scl_len {k : Rat} (hk : k ≠ 0) {l : List Rat} (h : NT l) : (scl k l).length = l.length := by
  have h1 := lst_len l.length fun i => k * cf l i
  by_cases e : l = []
  · subst e; exact Nat.le_antisymm h1 (Nat.zero_le _)
  · have hl : 0 < l.length := List.length_pos_iff.2 e
    rcases Nat.lt_or_ge (scl k l).length l.length with c | c
    · have := scl_cf k l (l.length - 1)
      rw [cf_past (l := scl k l) (by omega)] at this
      rcases Rat.mul_eq_zero.1 this.symm with d | d
      · exact absurd d hk
      · exact absurd d (h.lead e)
    · exact Nat.le_antisymm h1 c
theorem Dv.list {m w : List Rat} (h : Dv (cf m) (cf w)) : ∃ a, NT a ∧ ∀ i, conv (cf a) (cf m) i = cf w i := by
  obtain ⟨a, ⟨n, hn⟩, ha⟩ := h
  exact ⟨lst n a, lst_NT _ _, fun i => by rw [← ha]; exact conv_congr (lst_cf hn) (fun _ => rfl) i⟩
theorem Dv.len {m w : List Rat} (h : Dv (cf m) (cf w)) (hm : NT m) (hm0 : m ≠ []) (hw : NT w) (hw0 : w ≠ []) : m.length ≤ w.length := by
  obtain ⟨a, ha, hc⟩ := h.list
  have ha0 : a ≠ [] := fun e => hw0 (hw.none fun i => by rw [← hc, e]; exact conv_zero (P := cf []) (fun _ => rfl) i)
  have := (fac_len hm0 hm ha ha0 hw fun i => (hc i).symm).1
  have := List.length_pos_iff.2 ha0
  omega

theorem part_fn {P Q : Nat → Rat} {n : Nat} (hP : ∀ i, n ≤ i → P i = 0) (j : Nat) : part P Q n j = conv P Q j := by
  unfold part conv
  rcases Nat.le_total n (j + 1) with c | c
  · rw [sumN_more (fun i => P i * Q (j - i)) c (fun i hi _ => by rw [hP i hi]; grind)]
    exact sumN_congr fun i hi => by rw [if_pos (by omega)]
  · rw [sumN_more (fun t => if t ≤ j then P t * Q (j - t) else 0) c (fun i hi _ => by rw [if_neg (by omega)])]
    exact sumN_congr fun i hi => by rw [if_pos (by omega)]
theorem fac3 {c : List Rat} (h0 : c ≠ []) (hn : NT c) (hl : c.length ≤ 3) (hb : bdL 1 36 c) : Fac 108 c := by
  refine ⟨h0, hn, fun {D N P} hP i => ?_⟩
  rw [conv_comm, ← part_fn (n := 3) (fun i hi => cf_past (by omega)) i]
  have := part_bd hb hP 3 i
  rwa [Nat.one_mul, show 3 * (36 * N) = 108 * N by omega] at this
theorem fac1 {L : Int} (h0 : L ≠ 0) (hL : L.natAbs ≤ 1296) : Fac 1296 [(L : Rat)] := by
  refine ⟨by simp, Or.inr ?_, fun {D N P} hP i => ?_⟩
  · show (L : Rat) ≠ 0
    intro c
    have : ((L : Int) : Rat) = ((0 : Int) : Rat) := c
    exact h0 (Rat.intCast_inj.1 this)
  · have e : conv P (cf [(L : Rat)]) i = P i * (L : Rat) := by
      rw [conv_comm, ← part_fn (n := 1) (fun i hi => cf_past (by simpa using hi)) i]
      unfold part
      show (0 : Rat) + (if 0 ≤ i then cf [(L : Rat)] 0 * P (i - 0) else 0) = _
      rw [if_pos (Nat.zero_le _), cf_zero, Nat.sub_zero]; grind
    rw [e]
    obtain ⟨z, h1, h2⟩ := hP i
    refine ⟨z * L, ?_, ?_⟩
    · rw [Int.natAbs_mul, Nat.mul_comm]; exact Nat.mul_le_mul hL h1
    · rw [Rat.intCast_mul, ← h2]; grind

theorem pw_bd {k : Int} (h : k.natAbs ≤ 4) : ∀ i, bd 1 (4 ^ i) (pwR (k : Rat) i)
  | 0 => int_bd1 (z := 1) (by decide) rfl
  | i + 1 => by
    have h1 : bd 1 4 (k : Rat) := int_bd1 h rfl
    have := (pw_bd h i).mul h1
    rw [Nat.mul_one, ← Nat.pow_succ] at this
    exact this
theorem val_bd {p : List Rat} (hb : bdL 1 36 p) (hl : p.length ≤ 5) {k : Int} (h : k.natAbs ≤ 4) : bd 1 12276 (evP p (k : Rat)) := by
  rw [evP_any hl]
  have t : ∀ i, bd 1 (36 * 4 ^ i) (cf p i * pwR (k : Rat) i) := fun i => by
    have := (hb i).mul (pw_bd h i)
    rwa [Nat.mul_one] at this
  exact ((((((bd.zero 1 0).add (t 0)).add (t 1)).add (t 2)).add (t 3)).add (t 4)).mono (by decide)
def nodes : List Int := [-4, -3, -2, -1, 0, 1, 2, 3, 4]
theorem nodes_nodup : nodes.Nodup := by decide
theorem nodes_small : ∀ k ∈ nodes, k.natAbs ≤ 4 := by decide
/-- The factors of a small polynomial with integer coefficients are small. -/
theorem factor_small {f a g : List Rat} (hf : bdL 1 36 f) (hfl : f.length ≤ 5) (hf0 : ∃ i, cf f i ≠ 0) (ha : Dz 1 (cf a)) (hg : Dz 1 (cf g)) (h : ∀ j, cf f j = conv (cf a) (cf g) j) (n : Nat) (hn : n ≤ 4) (hgn : ∀ i, n + 1 ≤ i → cf g i = 0) : bdL 1 (cI n * 12276) g := by
  have hm := good_many 4 f nodes (fun i hi => cf_past (by omega)) hf0 nodes_nodup
  have hsub : ∀ k ∈ good f nodes, k ∈ nodes ∧ evP f (k : Rat) ≠ 0 := fun k hk => by
    have := List.mem_filter.1 hk
    exact ⟨this.1, bne_iff_ne.1 this.2⟩
  refine interp n (good f nodes) g 12276 ?_ (nodes_nodup.filter _) (fun k hk => nodes_small k (hsub k hk).1) hg hgn (fun k hk => ?_)
  · have : nodes.length = 9 := rfl
    omega
  · obtain ⟨x, hx1, hx2⟩ := bd1_int (val_bd hf hfl (nodes_small k (hsub k hk).1))
    obtain ⟨y, hy⟩ := evP_int ha k
    obtain ⟨z, hz⟩ := evP_int hg k
    have e := evP_conv (x := (k : Rat)) h
    rw [hx2, hy, hz] at e
    have e2 : x = y * z := by
      have : ((x : Int) : Rat) = ((y * z : Int) : Rat) := by rw [e, Rat.intCast_mul]
      exact Rat.intCast_inj.1 this
    have hx0 : x ≠ 0 := fun c => (hsub k hk).2 (by rw [hx2, c]; rfl)
    have hy0 : y ≠ 0 := fun c => hx0 (by rw [e2, c]; simp)
    refine int_bd1 (z := z) ?_ hz
    have : x.natAbs = y.natAbs * z.natAbs := by rw [e2, Int.natAbs_mul]
    have h1 : 1 ≤ y.natAbs := by omega
    have h2 : 1 * z.natAbs ≤ y.natAbs * z.natAbs := Nat.mul_le_mul_right _ h1
    omega
theorem chk_xy : ∀ a b : Fin 6, chk 108 36 (b.1 + 1) a.1 b.1 36 36 36 36 = true := by decide +kernel
theorem chk_one : ∀ a b : Fin 6, chk 1296 1296 (b.1 + 1) a.1 b.1 36 36 36 36 = true := by decide +kernel
theorem chk_ab : ∀ a b : Fin 5, chk 1296 1296 (b.1 + 1) a.1 b.1 36 13638636 36 13638636 = true := by decide +kernel
theorem cI4 : cI 4 * 12276 = 136398636 := by decide
theorem cI3 : cI 3 * 12276 = 13638636 := by decide

end Go.Proofs.YtffndcjmabjhiaaGreatDoor

namespace Go.Proofs.YtffndcjmabjhiaaGreatDoor
open Num

theorem one_ne : (1 : Rat) ≠ 0 := by decide
theorem six_inv : (6 : Rat) * (1 / 6) = 1 := by grind
/-- The division of what is divided leaves nothing. -/
theorem div_exact {κ D N E M n : Nat} {c w p t q a : List Rat} (hc : Fac κ c) (hw : bdL D N w) (hD : 0 < D) (hNw : NT w) (hNp : NT p) (hp : ∀ i, cf p i = conv (cf w) (cf c) i) (ht : bdL E M t) (hE : 0 < E) (hne : t ≠ []) (hNT : NT t) (hNq : NT q) (hq : ∀ i, cf q i = conv (cf t) (cf c) i)
    (ha : ∀ i, conv (cf a) (cf t) i = cf w i) (hwl : w.length ≤ n) (hlE : Lo9 E) (hlM : Lo9 (κ * M)) (hlD : Lo9 (D * M ^ n)) (hlN : Lo9 (κ * N * (2 * M) ^ n)) (hlF : Lo9 (N * E * (2 * M) ^ n)) (hM : 0 < M) :
    ∃ u, byO p q = some (u, []) ∧ NT u ∧ u.length ≤ n ∧ (∀ i, fitQ (cf u i)) ∧ ∀ i, cf u i = cf a i := by
  have htl : 0 < t.length := List.length_pos_iff.2 hne
  have pw : ∀ (b j : Nat), 0 < b → j ≤ n → b ^ j ≤ b ^ n := fun b j hb hj => Nat.pow_le_pow_right hb hj
  have hjn : w.length + 1 - t.length ≤ n := by omega
  obtain ⟨u, r, w', A, k1, -, -, k4, k5, k6, k7, k8, k9, k10, -, k12⟩ := byc_ok hc hw hD hNw hNp hp ht hE hne hNT hNq hq rfl hlE hlM (hlD.mono (Nat.mul_le_mul_left _ (pw M _ hM hjn))) (hlN.mono (Nat.mul_le_mul_left _ (pw (2 * M) _ (by omega) hjn)))
    (fun j hj => hlF.mono (Nat.mul_le_mul_left _ (pw (2 * M) _ (by omega) (by omega))))
  obtain ⟨e1, e2⟩ := div_unique (u := u) (r := w') (u' := a) (r' := []) hne hNT k7 htl fun j => by rw [k10, ha, cf_nil]; grind
  have hw0 : w' = [] := k6.none e2
  subst hw0
  have hr0 := fac_nil k5 k8
  subst hr0
  exact ⟨u, k1, k4, by omega, k12, e1⟩

end Go.Proofs.YtffndcjmabjhiaaGreatDoor
