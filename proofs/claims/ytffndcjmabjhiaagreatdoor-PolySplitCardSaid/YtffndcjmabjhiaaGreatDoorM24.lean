/- The search for the roots of a polynomial by halving: it ends, and what it returns. Plain. The chain of Sturm of two polynomials without a common divisor does not fail where a reckoning of sizes allows it. Plain. Values of polynomials at numbers over a great power of two do not fail. Plain. A small polynomial, divided by its greatest common divisor with its derivative: sizes, and no divisor in common with its own derivative. Plain. A polynomial with integer coefficients and its derivative are not both small at one place, if they have no common divisor. Plain. A small polynomial: its chain, the distance of its roots, and the search for them. Plain. -/
import Derived.Test.YtffndcjmabjhiaaGreatDoorM23
import Derived.Test.YtffndcjmabjhiaaGreatDoorM22
import Derived.Test.YtffndcjmabjhiaaGreatDoorM7
namespace Go.Proofs.YtffndcjmabjhiaaGreatDoor
open Num

theorem ratLe_iff (a b : Rat) : ratLe a b = true ↔ a ≤ b := by
  unfold ratLe
  rw [decide_eq_true_eq, cmpO_some]
  by_cases h1 : a < b
  · rw [if_pos h1]; exact ⟨fun _ => by grind, fun _ => by decide⟩
  · by_cases h2 : b < a
    · rw [if_neg h1, if_pos h2]; exact ⟨fun k => absurd k (by decide), fun k => by grind⟩
    · rw [if_neg h1, if_neg h2]; exact ⟨fun _ => by grind, fun _ => by decide⟩
/-- A small interval with one root that needs no further halving. -/
def Leaf (ls : List (List Rat)) (most a b : Rat) : Prop := varL ls a = varL ls b + 1 ∧ b - a ≤ most ∧ (rootL ls b = true ∨ rootL ls a = false)
theorem exam_do {ls : List (List Rat)} {most : Rat} {ok : Rat → Bool} {k : Nat} {a b : Rat} {new : List (Rat × Rat)} (h : examO ls most ok (k + 1) a b = some new) :
    (varL ls a = varL ls b ∧ new = []) ∨ (varL ls a ≠ varL ls b ∧ ((Leaf ls most a b ∧ rootL ls b = true ∧ new = [(b, b)]) ∨ (Leaf ls most a b ∧ rootL ls b = false ∧ rootL ls a = false ∧ new = [(a, b)]) ∨
      (¬ Leaf ls most a b ∧ ∃ l1 l2, ok ((a + b) / 2) = true ∧ examO ls most ok k a ((a + b) / 2) = some l1 ∧ examO ls most ok k ((a + b) / 2) b = some l2 ∧ new = l1 ++ l2))) := by
  have h' : (if varL ls a = varL ls b then some [] else
    (if (varL ls a : Int) - varL ls b = 1 then (subQ b a).bind fun d => some (ratLe d most) else some false).bind fun small =>
    if (small && rootL ls b) = true then some [(b, b)] else if (small && !rootL ls a) = true then some [(a, b)] else
    (addQ a b).bind fun s => (divQ s 2).bind fun m => if ok m = true then (examO ls most ok k a m).bind fun l1 => (examO ls most ok k m b).bind fun l2 => some (l1 ++ l2) else none) = some new := h
  clear h
  by_cases h0 : varL ls a = varL ls b
  · rw [if_pos h0] at h'; exact .inl ⟨h0, (Option.some.inj h').symm⟩
  rw [if_neg h0] at h'
  refine .inr ⟨h0, ?_⟩
  obtain ⟨sm, h1, h2⟩ := Option.bind_eq_some_iff.1 h'
  clear h'
  have hsm : sm = true ↔ (varL ls a = varL ls b + 1 ∧ b - a ≤ most) := by
    by_cases c : (varL ls a : Int) - varL ls b = 1
    · rw [if_pos c] at h1
      obtain ⟨d, h3, h4⟩ := Option.bind_eq_some_iff.1 h1
      rw [← Option.some.inj h4, ratLe_iff, subQ_some h3]
      exact ⟨fun k => ⟨by omega, k⟩, fun k => k.2⟩
    · rw [if_neg c] at h1
      rw [← Option.some.inj h1]
      exact ⟨fun k => absurd k (by decide), fun k => absurd (by omega) c⟩
  by_cases c1 : (sm && rootL ls b) = true
  · rw [if_pos c1] at h2
    rw [Bool.and_eq_true] at c1
    obtain ⟨e1, e2⟩ := hsm.1 c1.1
    exact .inl ⟨⟨e1, e2, .inl c1.2⟩, c1.2, (Option.some.inj h2).symm⟩
  rw [if_neg c1] at h2
  rw [Bool.and_eq_true] at c1
  by_cases c2 : (sm && !rootL ls a) = true
  · rw [if_pos c2] at h2
    rw [Bool.and_eq_true, Bool.not_eq_true'] at c2
    obtain ⟨e1, e2⟩ := hsm.1 c2.1
    exact .inr (.inl ⟨⟨e1, e2, .inr c2.2⟩, by
      cases hb : rootL ls b with
      | false => rfl
      | true => exact absurd ⟨c2.1, hb⟩ c1, c2.2, (Option.some.inj h2).symm⟩)
  rw [if_neg c2] at h2
  rw [Bool.and_eq_true, Bool.not_eq_true'] at c2
  refine .inr (.inr ⟨fun l => ?_, ?_⟩)
  · obtain ⟨e1, e2, e3⟩ := l
    have := hsm.2 ⟨e1, e2⟩
    rcases e3 with e3 | e3
    · exact c1 ⟨this, e3⟩
    · exact c2 ⟨this, e3⟩
  · obtain ⟨s, h4, h5⟩ := Option.bind_eq_some_iff.1 h2
    obtain ⟨m, h6, h7⟩ := Option.bind_eq_some_iff.1 h5
    have hs := addQ_some h4
    have hm := (divQ_some h6).1
    subst hs
    subst hm
    by_cases c3 : ok ((a + b) / 2) = true
    · rw [if_pos c3] at h7
      obtain ⟨l1, h8, h9⟩ := Option.bind_eq_some_iff.1 h7
      obtain ⟨l2, h10, h11⟩ := Option.bind_eq_some_iff.1 h9
      exact ⟨l1, l2, c3, h8, h10, (Option.some.inj h11).symm⟩
    · rw [if_neg c3] at h7; cases h7
/-- The other way round. -/
theorem exam_ok {ls : List (List Rat)} {most : Rat} {ok : Rat → Bool} {k : Nat} {a b : Rat} (hd : subQ b a = some (b - a)) (hs : addQ a b = some (a + b)) (hm : divQ (a + b) 2 = some ((a + b) / 2)) (hok : ok ((a + b) / 2) = true)
    (h : varL ls a ≠ varL ls b → ¬ Leaf ls most a b → (∃ l1, examO ls most ok k a ((a + b) / 2) = some l1) ∧ ∃ l2, examO ls most ok k ((a + b) / 2) b = some l2) : ∃ new, examO ls most ok (k + 1) a b = some new := by
  show ∃ new, (if varL ls a = varL ls b then some [] else
    (if (varL ls a : Int) - varL ls b = 1 then (subQ b a).bind fun d => some (ratLe d most) else some false).bind fun small =>
    if (small && rootL ls b) = true then some [(b, b)] else if (small && !rootL ls a) = true then some [(a, b)] else
    (addQ a b).bind fun s => (divQ s 2).bind fun m => if ok m = true then (examO ls most ok k a m).bind fun l1 => (examO ls most ok k m b).bind fun l2 => some (l1 ++ l2) else none) = some new
  by_cases h0 : varL ls a = varL ls b
  · exact ⟨_, by rw [if_pos h0]⟩
  rw [if_neg h0]
  have hsm : (if (varL ls a : Int) - varL ls b = 1 then (subQ b a).bind fun d => some (ratLe d most) else some false) = some (decide (varL ls a = varL ls b + 1 ∧ b - a ≤ most)) := by
    by_cases c : (varL ls a : Int) - varL ls b = 1
    · rw [if_pos c, hd]
      show some (ratLe (b - a) most) = _
      congr 1
      rw [Bool.eq_iff_iff, ratLe_iff, decide_eq_true_eq]
      exact ⟨fun k => ⟨by omega, k⟩, fun k => k.2⟩
    · rw [if_neg c]
      congr 1
      rw [eq_comm, decide_eq_false_iff_not]
      exact fun k => c (by omega)
  rw [hsm]
  show ∃ new, (if (decide (varL ls a = varL ls b + 1 ∧ b - a ≤ most) && rootL ls b) = true then some [(b, b)] else if (decide (varL ls a = varL ls b + 1 ∧ b - a ≤ most) && !rootL ls a) = true then some [(a, b)] else
    (addQ a b).bind fun s => (divQ s 2).bind fun m => if ok m = true then (examO ls most ok k a m).bind fun l1 => (examO ls most ok k m b).bind fun l2 => some (l1 ++ l2) else none) = some new
  by_cases c1 : (decide (varL ls a = varL ls b + 1 ∧ b - a ≤ most) && rootL ls b) = true
  · exact ⟨_, by rw [if_pos c1]⟩
  rw [if_neg c1]
  by_cases c2 : (decide (varL ls a = varL ls b + 1 ∧ b - a ≤ most) && !rootL ls a) = true
  · exact ⟨_, by rw [if_pos c2]⟩
  rw [if_neg c2]
  rw [Bool.and_eq_true, decide_eq_true_eq] at c1
  rw [Bool.and_eq_true, decide_eq_true_eq, Bool.not_eq_true'] at c2
  obtain ⟨⟨l1, e1⟩, l2, e2⟩ := h h0 (fun l => by
    obtain ⟨e1, e2, e3⟩ := l
    rcases e3 with e3 | e3
    · exact c1 ⟨⟨e1, e2⟩, e3⟩
    · exact c2 ⟨⟨e1, e2⟩, e3⟩)
  refine ⟨l1 ++ l2, ?_⟩
  rw [hs]
  show ((divQ (a + b) 2).bind fun m => if ok m = true then (examO ls most ok k a m).bind fun l1 => (examO ls most ok k m b).bind fun l2 => some (l1 ++ l2) else none) = _
  rw [hm]
  show (if ok ((a + b) / 2) = true then (examO ls most ok k a ((a + b) / 2)).bind fun l1 => (examO ls most ok k ((a + b) / 2) b).bind fun l2 => some (l1 ++ l2) else none) = _
  rw [if_pos hok, e1, e2]
  rfl

theorem root_iff {F : List Rat} {ls : List (List Rat)} (h : Sturm F ls) (x : Rat) : rootL ls x = true ↔ evP F x = 0 := by
  obtain ⟨_, t, rfl, _⟩ := h
  show (sgnQ (evP F x) == 0) = true ↔ _
  rw [beq_iff_eq]
  constructor
  · intro k
    apply Classical.byContradiction
    intro c
    by_cases p : 0 < evP F x
    · rw [sg_pos p] at k; exact absurd k (by decide)
    · rw [sg_neg (by grind)] at k; exact absurd k (by decide)
  · exact sg_zero
theorem root_no {F : List Rat} {ls : List (List Rat)} (h : Sturm F ls) (x : Rat) : rootL ls x = false ↔ evP F x ≠ 0 := by
  rw [← Bool.not_eq_true, root_iff h]

/-- A number over E times a power of two. -/
def Gd (E n : Nat) (x : Rat) : Prop := ∃ z : Int, x * ((E * 2 ^ n : Nat) : Rat) = (z : Rat)
theorem Gd.up {E n : Nat} {x : Rat} (h : Gd E n x) : Gd E (n + 1) x := by
  obtain ⟨z, h⟩ := h
  refine ⟨z * 2, ?_⟩
  rw [Nat.pow_succ, ← Nat.mul_assoc, Rat.natCast_mul, Rat.intCast_mul, ← h, show ((2 : Nat) : Rat) = 2 from rfl, show ((2 : Int) : Rat) = 2 from rfl]; grind
theorem Gd.ups {E n m : Nat} {x : Rat} (h : Gd E n x) (k : n ≤ m) : Gd E m x := by
  induction m with
  | zero => rwa [show n = 0 by omega] at h
  | succ m ih =>
    by_cases e : n = m + 1
    · rwa [← e]
    · exact (ih (by omega)).up
theorem Gd.half {E n : Nat} {a b : Rat} (h : Gd E n a) (k : Gd E n b) : Gd E (n + 1) ((a + b) / 2) := by
  obtain ⟨z, h⟩ := h
  obtain ⟨y, k⟩ := k
  refine ⟨z + y, ?_⟩
  rw [Nat.pow_succ, ← Nat.mul_assoc, Rat.natCast_mul, Rat.intCast_add, ← h, ← k, show ((2 : Nat) : Rat) = 2 from rfl]; grind
theorem Gd.bd {X E n : Nat} {x : Rat} (h : Gd E n x) (hx : Ab (X : Rat) x) : bd (E * 2 ^ n) (X * (E * 2 ^ n)) x := by
  obtain ⟨z, h⟩ := h
  refine ⟨z, ?_, h⟩
  have hn : (0 : Rat) ≤ ((E * 2 ^ n : Nat) : Rat) := Rat.natCast_nonneg
  obtain ⟨x1, x2⟩ := hx
  have a := mul_up x2 hn
  have b := mul_up x1 hn
  rw [h, ← Rat.natCast_mul] at a
  rw [h] at b
  have e : -(X : Rat) * ((E * 2 ^ n : Nat) : Rat) = ((-((X * (E * 2 ^ n) : Nat) : Int) : Int) : Rat) := by
    rw [Rat.intCast_neg]
    have : (((X * (E * 2 ^ n) : Nat) : Int) : Rat) = ((X * (E * 2 ^ n) : Nat) : Rat) := rfl
    rw [this, Rat.natCast_mul]; grind
  rw [e] at b
  have a' : z ≤ ((X * (E * 2 ^ n) : Nat) : Int) := Rat.intCast_le_intCast.1 a
  have b' := Rat.intCast_le_intCast.1 b
  omega

/-- What the search needs: the theorem of Sturm, the distance of roots, and places that are small enough. -/
structure Bis (X E T : Nat) (F : List Rat) (ls : List (List Rat)) (most e : Rat) (ok : Rat → Bool) : Prop where
  st : Sturm F ls
  sep : ∀ a b, Ab (X : Rat) a → Ab (X : Rat) b → a ≤ b → b - a ≤ e → varL ls a ≠ varL ls b → Leaf ls most a b
  ok : ∀ x, Ab (X : Rat) x → Gd E T x → ok x = true
  e0 : 0 < E
  s1 : Lo (E * 2 ^ T)
  s2 : Lo (2 * X * (E * 2 ^ T))

/-- At most 90 digits. -/
def lim90 (x : Rat) : Prop := lim 90 x
theorem Bis.lim {X E T : Nat} {F : List Rat} {ls : List (List Rat)} {most e : Rat} {ok : Rat → Bool} (h : Bis X E T F ls most e ok) {x : Rat} (hx : Ab (X : Rat) x) (hg : Gd E T x) : lim90 x :=
  (hg.bd hx).lim90 (Nat.mul_pos h.e0 (Nat.pow_pos (by decide))) h.s1 (h.s2.mono (by rw [Nat.mul_assoc]; omega))
theorem mid_ab {X a b : Rat} (ha : Ab X a) (hb : Ab X b) : Ab X ((a + b) / 2) := by
  obtain ⟨a1, a2⟩ := ha; obtain ⟨b1, b2⟩ := hb; exact ⟨by grind, by grind⟩
theorem Bis.step {X E T : Nat} {F : List Rat} {ls : List (List Rat)} {most e : Rat} {ok : Rat → Bool} (h : Bis X E T F ls most e ok) {a b : Rat} {n k : Nat} (hn : n + 1 ≤ T) (ha : Ab (X : Rat) a) (hb : Ab (X : Rat) b) (ga : Gd E n a) (gb : Gd E n b)
    (hk : varL ls a ≠ varL ls b → ¬ Leaf ls most a b → (∃ l1, examO ls most ok k a ((a + b) / 2) = some l1) ∧ ∃ l2, examO ls most ok k ((a + b) / 2) b = some l2) : ∃ new, examO ls most ok (k + 1) a b = some new := by
  have ga' := ga.ups (m := T) (by omega)
  have gb' := gb.ups (m := T) (by omega)
  have gm : Gd E T ((a + b) / 2) := (ga.half gb).ups hn
  have hp : 0 < E * 2 ^ T := Nat.mul_pos h.e0 (Nat.pow_pos (by decide))
  have hs : lim90 (a + b) := by
    refine (((ga'.bd ha).add (gb'.bd hb)).mono (M := 2 * X * (E * 2 ^ T)) ?_).lim90 hp h.s1 h.s2
    rw [Nat.mul_assoc]; omega
  exact exam_ok (sub_ok (h.lim hb gb') (h.lim ha ga')) (add_ok (h.lim ha ga') (h.lim hb gb')) (quo_ok hs ⟨by decide, by decide⟩ (by decide)) (h.ok _ (mid_ab ha hb) gm) hk
theorem Bis.some {X E T : Nat} {F : List Rat} {ls : List (List Rat)} {most e : Rat} {ok : Rat → Bool} (h : Bis X E T F ls most e ok) :
    ∀ (n : Nat) (a b : Rat), n + 1 ≤ T → Ab (X : Rat) a → Ab (X : Rat) b → a ≤ b → Gd E (T - 1 - n) a → Gd E (T - 1 - n) b → b - a ≤ e * ((2 ^ n : Nat) : Rat) → ∃ new, examO ls most ok (n + 1) a b = some new := by
  intro n
  induction n with
  | zero =>
    intro a b hn ha hb hab ga gb hw
    have hw' : b - a ≤ e := by rw [show ((2 ^ 0 : Nat) : Rat) = 1 from rfl] at hw; grind
    exact h.step (by omega) ha hb ga gb (fun c1 c2 => absurd (h.sep a b ha hb hab hw' c1) c2)
  | succ n ih =>
    intro a b hn ha hb hab ga gb hw
    refine h.step (by omega) ha hb ga gb (fun c1 c2 => ?_)
    have hm := mid_ab ha hb
    have gm := ga.half gb
    have e1 : T - 1 - (n + 1) + 1 = T - 1 - n := by omega
    rw [e1] at gm
    have ga' := ga.up
    have gb' := gb.up
    rw [e1] at ga' gb'
    have e2 : ((2 ^ (n + 1) : Nat) : Rat) = ((2 ^ n : Nat) : Rat) * 2 := by rw [Nat.pow_succ, Rat.natCast_mul]; rfl
    rw [e2] at hw
    exact ⟨ih a _ (by omega) ha hm (by grind) ga' gm (by grind), ih _ b (by omega) hm hb (by grind) gm gb' (by grind)⟩

/-- What the search returns. -/
structure Inv (F : List Rat) (ls : List (List Rat)) (most a b : Rat) (new : List (Rat × Rat)) : Prop where
  inR : ∀ i ∈ new, a ≤ i.1 ∧ i.1 ≤ i.2 ∧ i.2 ≤ b
  kind : ∀ i ∈ new, (i.1 = i.2 ∧ evP F i.2 = 0 ∧ a < i.1) ∨ (i.1 < i.2 ∧ evP F i.1 ≠ 0 ∧ evP F i.2 ≠ 0 ∧ varL ls i.1 = varL ls i.2 + 1)
  thin : ∀ i ∈ new, i.2 - i.1 ≤ most
  len : new.length + varL ls b = varL ls a
  asc : new.Pairwise fun i j => i.2 ≤ j.1
theorem exam_inv {F : List Rat} {ls : List (List Rat)} {most : Rat} {ok : Rat → Bool} (h : Sturm F ls) (hm : 0 ≤ most) : ∀ (k : Nat) (a b : Rat) (new : List (Rat × Rat)), a ≤ b → examO ls most ok k a b = some new → Inv F ls most a b new := by
  intro k
  induction k with
  | zero => intro a b new _ e; cases e
  | succ k ih =>
    intro a b new hab e
    rcases exam_do e with ⟨e1, rfl⟩ | ⟨hne, ⟨hl, hb, rfl⟩ | ⟨hl, hb, ha, rfl⟩ | ⟨_, l1, l2, -, e1, e2, rfl⟩⟩
    · exact ⟨fun i hi => (List.not_mem_nil hi).elim, fun i hi => (List.not_mem_nil hi).elim, fun i hi => (List.not_mem_nil hi).elim, by simp [e1], List.Pairwise.nil⟩
    · have hlt : a < b := by
        by_cases c : a = b
        · rw [c] at hne; exact absurd rfl hne
        · grind
      refine ⟨fun i hi => ?_, fun i hi => ?_, fun i hi => ?_, ?_, List.pairwise_singleton _ _⟩
      · rw [List.mem_singleton.1 hi]; exact ⟨hab, by grind, by grind⟩
      · rw [List.mem_singleton.1 hi]; exact .inl ⟨rfl, (root_iff h b).1 hb, hlt⟩
      · rw [List.mem_singleton.1 hi]; show b - b ≤ most; grind
      · have := hl.1; simp; omega
    · have hlt : a < b := by
        by_cases c : a = b
        · rw [c] at hne; exact absurd rfl hne
        · grind
      refine ⟨fun i hi => ?_, fun i hi => ?_, fun i hi => ?_, ?_, List.pairwise_singleton _ _⟩
      · rw [List.mem_singleton.1 hi]; exact ⟨by grind, hab, by grind⟩
      · rw [List.mem_singleton.1 hi]; exact .inr ⟨hlt, (root_no h a).1 ha, (root_no h b).1 hb, hl.1⟩
      · rw [List.mem_singleton.1 hi]; exact hl.2.1
      · have := hl.1; simp; omega
    · have i1 := ih a _ l1 (by grind) e1
      have i2 := ih _ b l2 (by grind) e2
      refine ⟨fun i hi => ?_, fun i hi => ?_, fun i hi => ?_, ?_, ?_⟩
      · rcases List.mem_append.1 hi with c | c
        · obtain ⟨p, q, r⟩ := i1.inR i c; exact ⟨p, q, by grind⟩
        · obtain ⟨p, q, r⟩ := i2.inR i c; exact ⟨by grind, q, r⟩
      · rcases List.mem_append.1 hi with c | c
        · exact i1.kind i c
        · rcases i2.kind i c with ⟨p, q, r⟩ | p
          · exact .inl ⟨p, q, by grind⟩
          · exact .inr p
      · rcases List.mem_append.1 hi with c | c
        · exact i1.thin i c
        · exact i2.thin i c
      · have := i1.len; have := i2.len; rw [List.length_append]; omega
      · refine List.pairwise_append.2 ⟨i1.asc, i2.asc, fun i hi j hj => ?_⟩
        have p := (i1.inR i hi).2.2
        have q := (i2.inR j hj).1
        grind

/-- The ends of the intervals are those of the whole or places that were looked at. -/
theorem exam_ends {ls : List (List Rat)} {most : Rat} {ok : Rat → Bool} {P : Rat → Prop} (hP : ∀ x, ok x = true → P x) : ∀ (k : Nat) (a b : Rat) (new : List (Rat × Rat)), P a → P b → examO ls most ok k a b = some new → ∀ i ∈ new, P i.1 ∧ P i.2 := by
  intro k
  induction k with
  | zero => intro a b new _ _ e; cases e
  | succ k ih =>
    intro a b new ha hb e i hi
    rcases exam_do e with ⟨e1, rfl⟩ | ⟨hne, ⟨hl, _, rfl⟩ | ⟨hl, _, _, rfl⟩ | ⟨_, l1, l2, hk, e1, e2, rfl⟩⟩
    · exact (List.not_mem_nil hi).elim
    · rw [List.mem_singleton.1 hi]; exact ⟨hb, hb⟩
    · rw [List.mem_singleton.1 hi]; exact ⟨ha, hb⟩
    · rcases List.mem_append.1 hi with c | c
      · exact ih a _ l1 ha (hP _ hk) e1 i c
      · exact ih _ b l2 (hP _ hk) hb e2 i c

/-- How many of some intervals contain a number. -/
def hits (r : Rat) : List (Rat × Rat) → Nat
  | [] => 0
  | i :: l => (if i.1 ≤ r ∧ r ≤ i.2 then 1 else 0) + hits r l
theorem hits_append (r : Rat) : ∀ l k, hits r (l ++ k) = hits r l + hits r k
  | [], k => by show hits r k = 0 + hits r k; omega
  | i :: l, k => by
    show (if i.1 ≤ r ∧ r ≤ i.2 then 1 else 0) + hits r (l ++ k) = (if i.1 ≤ r ∧ r ≤ i.2 then 1 else 0) + hits r l + hits r k
    rw [hits_append r l k]; omega
theorem exam_hits {X : Rat} (hX : 0 ≤ X) {F : List Rat} {ls : List (List Rat)} {most r : Rat} {ok : Rat → Bool} (h : Sturm F ls) (hr : evP F r = 0) (hrX : Ab X r) :
    ∀ (k : Nat) (a b : Rat) (new : List (Rat × Rat)), Ab X a → Ab X b → a ≤ b → examO ls most ok k a b = some new → hits r new = if a < r ∧ r ≤ b then 1 else 0 := by
  intro k
  induction k with
  | zero => intro a b new _ _ _ e; cases e
  | succ k ih =>
    intro a b new ha hb hab e
    rcases exam_do e with ⟨e1, rfl⟩ | ⟨hne, ⟨hl, hrb, rfl⟩ | ⟨hl, hrb, hra, rfl⟩ | ⟨_, l1, l2, -, e1, e2, rfl⟩⟩
    · rw [if_neg (fun c => ?_)]; rfl
      have p := h.root hX ha hrX c.1 hr
      have q := h.mono hX hrX hb c.2
      omega
    · have hb0 := (root_iff h b).1 hrb
      show (if b ≤ r ∧ r ≤ b then 1 else 0) + 0 = _
      have hlt : a < b := by
        by_cases c : a = b
        · rw [c] at hne; exact absurd rfl hne
        · grind
      by_cases c : r = b
      · rw [if_pos (by rw [c]; exact ⟨by grind, by grind⟩), if_pos (by rw [c]; exact ⟨hlt, by grind⟩)]
      · rw [if_neg (fun k => c (by grind)), if_neg (fun k => ?_)]
        have p := h.root hX ha hrX k.1 hr
        have q := h.root hX hrX hb (by grind) hb0
        have := hl.1
        omega
    · have hb0 := (root_no h b).1 hrb
      have ha0 := (root_no h a).1 hra
      show (if a ≤ r ∧ r ≤ b then 1 else 0) + 0 = _
      have c : a ≠ r := fun c => ha0 (by rw [c]; exact hr)
      by_cases d : a < r ∧ r ≤ b
      · rw [if_pos d, if_pos ⟨by grind, d.2⟩]
      · rw [if_neg d, if_neg (fun k => d ⟨by grind, k.2⟩)]
    · have hm := mid_ab ha hb
      rw [hits_append, ih a _ l1 ha hm (by grind) e1, ih _ b l2 hm hb (by grind) e2]
      by_cases c1 : a < r ∧ r ≤ (a + b) / 2
      · rw [if_pos c1, if_neg (fun k => by grind), if_pos ⟨c1.1, by grind⟩]
      · rw [if_neg c1]
        by_cases c2 : (a + b) / 2 < r ∧ r ≤ b
        · rw [if_pos c2, if_pos ⟨by grind, c2.2⟩]
        · rw [if_neg c2, if_neg (fun k => by grind)]

/-- Intervals within others, one by one. -/
def Nest : List (Rat × Rat) → List (Rat × Rat) → Prop
  | [], [] => True
  | i :: l, j :: k => (i.1 ≤ j.1 ∧ j.2 ≤ i.2) ∧ Nest l k
  | _, _ => False
theorem Nest.append : ∀ {l l' k k' : List (Rat × Rat)}, Nest l l' → Nest k k' → Nest (l ++ k) (l' ++ k')
  | [], [], _, _, _, h => h
  | _ :: _, _ :: _, _, _, h, k => ⟨h.1, h.2.append k⟩
  | [], _ :: _, _, _, h, _ => h.elim
  | _ :: _, [], _, _, h, _ => h.elim
theorem Nest.refl : ∀ l : List (Rat × Rat), Nest l l
  | [] => trivial
  | _ :: l => ⟨⟨by grind, by grind⟩, Nest.refl l⟩
theorem Nest.len : ∀ {l k : List (Rat × Rat)}, Nest l k → l.length = k.length
  | [], [], _ => rfl
  | _ :: _, _ :: _, h => congrArg (· + 1) h.2.len
  | [], _ :: _, h => h.elim
  | _ :: _, [], h => h.elim
theorem Nest.get : ∀ {l k : List (Rat × Rat)}, Nest l k → ∀ (j : Nat) (h1 : j < l.length) (h2 : j < k.length), l[j].1 ≤ k[j].1 ∧ k[j].2 ≤ l[j].2
  | _ :: _, _ :: _, h, 0, _, _ => h.1
  | _ :: _, _ :: _, h, j + 1, h1, h2 => h.2.get j (by simpa using h1) (by simpa using h2)
  | [], _, _, j, h1, _ => by simp at h1
  | _, [], _, j, _, h2 => by simp at h2
/-- Where the end is the only root, it is what is returned. -/
theorem exam_end {X : Rat} (hX : 0 ≤ X) {F : List Rat} {ls : List (List Rat)} {most : Rat} {ok : Rat → Bool} (h : Sturm F ls) : ∀ (k : Nat) (a b : Rat) (new : List (Rat × Rat)), Ab X a → Ab X b → a ≤ b → evP F b = 0 → varL ls a = varL ls b + 1 →
    examO ls most ok k a b = some new → new = [(b, b)] := by
  intro k
  induction k with
  | zero => intro a b new _ _ _ _ _ e; cases e
  | succ k ih =>
    intro a b new ha hb hab hb0 hn e
    have hrb := (root_iff h b).2 hb0
    rcases exam_do e with ⟨e1, rfl⟩ | ⟨hne, ⟨hl, _, rfl⟩ | ⟨hl, hr, _, rfl⟩ | ⟨_, l1, l2, -, e1, e2, rfl⟩⟩
    · omega
    · rfl
    · rw [hrb] at hr; cases hr
    · have hm := mid_ab ha hb
      have hlt : a < b := by
        by_cases c : a = b
        · rw [c] at hne; exact absurd rfl hne
        · grind
      have p := h.root hX hm hb (by grind) hb0
      have q := h.mono hX ha hm (by grind)
      have i := ih _ b l2 hm hb (by grind) hb0 (by omega) e2
      have : l1 = [] := by
        have e3 : varL ls a = varL ls ((a + b) / 2) := by omega
        cases k with
        | zero => cases e1
        | succ k =>
          rcases exam_do e1 with ⟨_, r⟩ | ⟨c, _⟩
          · exact r
          · exact absurd e3 c
      rw [this, i]; rfl
/-- A finer search returns intervals within those of a coarser one. -/
theorem exam_nest {X : Rat} (hX : 0 ≤ X) {F : List Rat} {ls : List (List Rat)} {m1 m2 : Rat} {o1 o2 : Rat → Bool} (h : Sturm F ls) (hm0 : 0 ≤ m2) (hm : m2 ≤ m1) : ∀ (k1 k2 : Nat) (a b : Rat) (n1 n2 : List (Rat × Rat)), Ab X a → Ab X b → a ≤ b →
    examO ls m1 o1 k1 a b = some n1 → examO ls m2 o2 k2 a b = some n2 → Nest n1 n2 := by
  intro k1
  induction k1 with
  | zero => intro k2 a b n1 n2 _ _ _ e; cases e
  | succ k1 ih =>
    intro k2 a b n1 n2 ha hb hab e1 e2
    cases k2 with
    | zero => cases e2
    | succ k2 =>
      have inv := exam_inv h hm0 (k2 + 1) a b n2 hab e2
      rcases exam_do e1 with ⟨c1, rfl⟩ | ⟨hne, ⟨hl, hr, rfl⟩ | ⟨hl, hr, hr2, rfl⟩ | ⟨hnl, l1, l2, -, f1, f2, rfl⟩⟩
      · rcases exam_do e2 with ⟨_, rfl⟩ | ⟨c, _⟩
        · trivial
        · exact absurd c1 c
      · rw [exam_end hX h (k2 + 1) a b n2 ha hb hab ((root_iff h b).1 hr) hl.1 e2]
        exact Nest.refl _
      · have hlen : n2.length = 1 := by have := inv.len; have := hl.1; omega
        obtain ⟨i, rfl⟩ : ∃ i, n2 = [i] := by
          match n2, hlen with
          | [i], _ => exact ⟨i, rfl⟩
        obtain ⟨p, q, r⟩ := inv.inR i (List.mem_singleton.2 rfl)
        exact ⟨⟨p, r⟩, trivial⟩
      · rcases exam_do e2 with ⟨c, _⟩ | ⟨_, ⟨hl, _, _⟩ | ⟨hl, _, _, _⟩ | ⟨_, l3, l4, -, f3, f4, rfl⟩⟩
        · exact absurd c hne
        · exact absurd ⟨hl.1, by have := hl.2.1; grind, hl.2.2⟩ hnl
        · exact absurd ⟨hl.1, by have := hl.2.1; grind, hl.2.2⟩ hnl
        · have hm' := mid_ab ha hb
          exact (ih k2 a _ l1 l3 ha hm' (by grind) f1 f3).append (ih k2 _ b l2 l4 hm' hb (by grind) f2 f4)

end Go.Proofs.YtffndcjmabjhiaaGreatDoor

namespace Go.Proofs.YtffndcjmabjhiaaGreatDoor
open Num

/-- Whether the values of a polynomial of length n with numerators of at most N over D can be computed at numbers over E of a size of at most X. -/
def evK (X E D N n : Nat) : Bool :=
  decide (D < 10 ^ 34) && (decide (N < 10 ^ 34) && (decide (D * E ^ (n - 1) < 10 ^ 165) && (decide (N * geo X n * E ^ (n - 1) < 10 ^ 165) && (decide (D * E ^ (n - 2) < 10 ^ 150) && decide (N * geo X (n - 1) * E ^ (n - 2) < 10 ^ 150)))))
theorem evK_mono {X E D D' N n : Nat} (h : evK X E D' N n = true) (k : D ≤ D') : evK X E D N n = true := by
  unfold evK at h ⊢
  simp only [Bool.and_eq_true, decide_eq_true_eq] at h ⊢
  obtain ⟨h1, h2, h3, h4, h5, h6⟩ := h
  exact ⟨by omega, h2, Nat.lt_of_le_of_lt (Nat.mul_le_mul_right _ k) h3, h4, Nat.lt_of_le_of_lt (Nat.mul_le_mul_right _ k) h5, h6⟩
/-- A reckoning of the sizes of a chain from two polynomials on. -/
def chkS (X G : Nat) : Nat → Nat → Nat → Nat → Nat → Nat → Nat → Bool
  | 0, _, _, _, _, _, _ => false
  | f + 1, lw, lt, D, N, E, M =>
    evK X G D N lw && (decide (lt = 0) || (decide (Lo9 E) && (decide (Lo9 M) && (decide (Lo9 (D * M ^ (lw + 1 - lt))) && (decide (Lo9 (N * (2 * M) ^ (lw + 1 - lt))) &&
      (((List.range (lw + 1 - lt)).all fun j => decide (Lo9 (N * E * (2 * M) ^ j))) && (List.range lt).all fun l => chkS X G f lt l E M (if l = 1 then 1 else N * (2 * M) ^ (lw + 1 - lt) + 1) (if l = 1 then 1 else N * (2 * M) ^ (lw + 1 - lt))))))))
/-- A polynomial of a reckoned size. -/
def Szd (X G : Nat) (l : List Rat) : Prop := ∃ D N, 0 < D ∧ bdL D N l ∧ evK X G D N l.length = true

theorem fac_one : Fac 1 [(1 : Rat)] where
  ne := by simp
  nt := Or.inr one_ne
  kb := fun {D N P} h i => by rw [conv_comm, conv_one, Nat.one_mul]; exact h i
theorem conv_ones (P : Nat → Rat) (j : Nat) : conv P (cf [1]) j = P j := by rw [conv_comm, conv_one]
/-- A rest, divided by the size of its leading coefficient. -/
theorem size_ok {D N : Nat} {s : List Rat} (hs : bdL D N s) (hD : 0 < D) (hN : NT s) (h0 : s ≠ []) (lD : Lo9 D) (lN : Lo9 N) :
    ∃ z r k E, sizeO (lastC s) = some z ∧ overO s z = some r ∧ NT r ∧ r.length = s.length ∧ 0 < k ∧ (∀ i, cf s i = -k * cf r i) ∧ 0 < E ∧ E ≤ N ∧ bdL E N r ∧ (s.length = 1 → bdL 1 1 r) := by
  have hl0 : cf s (s.length - 1) ≠ 0 := hN.lead h0
  obtain ⟨k, hk0, z, hz, hzk⟩ : ∃ k : Rat, 0 < k ∧ ∃ z, sizeO (lastC s) = some z ∧ z = -k ∧ (k = cf s (s.length - 1) ∨ k = -cf s (s.length - 1)) := by
    unfold sizeO lastC
    by_cases c : 0 < cf s (s.length - 1)
    · rw [if_pos (by rw [sg_pos c]; decide)]
      have e : subQ 0 (cf s (s.length - 1)) = some (0 - cf s (s.length - 1)) := sub_ok9 ⟨by decide, by decide⟩ ((hs _).lim99 hD lD lN)
      exact ⟨_, c, _, e, by grind, .inl rfl⟩
    · rw [if_neg (by rw [sg_neg (by grind)]; decide)]
      exact ⟨-cf s (s.length - 1), by grind, _, rfl, by grind, .inr rfl⟩
  obtain ⟨hzk, hk⟩ := hzk
  have hlim : ∀ i, lim 99 (cf s i) := fun i => (hs i).lim99 hD lD lN
  have hzl : lim 99 z := by
    rw [hzk]
    rcases hk with e | e
    · rw [e]
      have h3 : bd D N (-cf s (s.length - 1)) := by
        obtain ⟨v, v1, v2⟩ := hs (s.length - 1)
        exact ⟨-v, by omega, by rw [Rat.intCast_neg, ← v2]; grind⟩
      exact h3.lim99 hD lD lN
    · rw [e, show - -cf s (s.length - 1) = cf s (s.length - 1) by grind]; exact hlim _
  have hz0 : z ≠ 0 := by rw [hzk]; grind
  obtain ⟨r, r1, r2, r3⟩ := tab_all (g := fun i => divQ (cf s i) z) (n := s.length) (fun i => cf s i / z) (fun i _ => quo_ok9 (hlim i) hzl hz0)
  have hzi : z * z⁻¹ = 1 := Rat.mul_inv_cancel _ hz0
  have hrc : ∀ i, cf s i = -k * cf r i := fun i => by
    by_cases c : i < s.length
    · rw [r3 i c, ← hzk, Rat.div_def]; grind
    · rw [cf_past (l := s) (by omega), cf_past (l := r) (by omega)]; grind
  have hrl : cf r (r.length - 1) ≠ 0 := fun e => hl0 (by rw [hrc, ← r2, e]; grind)
  have hki : k * k⁻¹ = 1 := Rat.mul_inv_cancel _ (by grind)
  obtain ⟨y, hy1, hy2⟩ := hs (s.length - 1)
  have hDr := nat_ne hD
  have hy0 : y ≠ 0 := fun e => by
    rw [e] at hy2
    rcases Rat.mul_eq_zero.1 (hy2.trans (by rfl)) with c | c
    · exact hl0 c
    · exact hDr c
  have hky : ((y.natAbs : Nat) : Rat) = k * (D : Rat) := by
    have hD0 : (0 : Rat) < (D : Rat) := by
      have : ((0 : Int) : Rat) < ((D : Int) : Rat) := Rat.intCast_lt_intCast.2 (by omega)
      exact this
    have hp := Rat.mul_pos hk0 hD0
    rcases hk with e | e
    · rw [e, hy2] at hp ⊢
      have : 0 < y := by
        have : ((0 : Int) : Rat) < (y : Rat) := hp
        exact Rat.intCast_lt_intCast.1 this
      have e2 : ((y.natAbs : Nat) : Int) = y := by omega
      have : ((y.natAbs : Nat) : Rat) = (((y.natAbs : Nat) : Int) : Rat) := rfl
      rw [this, e2]
    · have e3 : k * (D : Rat) = -(y : Rat) := by rw [e, ← hy2]; grind
      rw [e3] at hp ⊢
      rw [← Rat.intCast_neg] at hp ⊢
      have : 0 < -y := by
        have : ((0 : Int) : Rat) < ((-y : Int) : Rat) := hp
        exact Rat.intCast_lt_intCast.1 this
      have e2 : ((y.natAbs : Nat) : Int) = -y := by omega
      have : ((y.natAbs : Nat) : Rat) = (((y.natAbs : Nat) : Int) : Rat) := rfl
      rw [this, e2]
  refine ⟨z, r, k, y.natAbs, hz, r1, Or.inr hrl, r2, hk0, hrc, by omega, hy1, fun i => ?_, fun h1 i => ?_⟩
  · obtain ⟨v, hv1, hv2⟩ := hs i
    refine ⟨-v, by omega, ?_⟩
    rw [hky, Rat.intCast_neg, ← hv2, hrc]; grind
  · by_cases c : i = 0
    · subst c
      have hl : cf s 0 = k ∨ cf s 0 = -k := by
        rw [h1] at hk
        rcases hk with e | e
        · left; rw [e]
        · right; rw [e]; grind
      have hr0 := hrc 0
      rcases hl with e | e
      · refine ⟨-1, by decide, ?_⟩
        rw [mone_cast, show ((1 : Nat) : Rat) = 1 from rfl]
        rw [e] at hr0
        have : k⁻¹ * k = k⁻¹ * (-k * cf r 0) := by rw [← hr0]
        grind
      · refine ⟨1, by decide, ?_⟩
        rw [one_cast, show ((1 : Nat) : Rat) = 1 from rfl]
        rw [e] at hr0
        have : k⁻¹ * -k = k⁻¹ * (-k * cf r 0) := by rw [← hr0]
        grind
    · rw [cf_past (by omega)]; exact bd.zero _ _

theorem chain_ok {X G : Nat} (f : Nat) : ∀ (n Db N Eb M D E : Nat) (l m : List Rat), chkS X G f l.length m.length Db N Eb M = true → f ≤ n → NT l → NT m → l ≠ [] → bdL D N l → 0 < D → D ≤ Db → bdL E M m → 0 < E → E ≤ Eb → Bz (cf [1]) (cf l) (cf m) →
    ∃ t, chainO n l m = some (l :: t) ∧ StC (l :: t) ∧ (∀ x ∈ l :: t, Szd X G x) ∧ ((t = [] ∧ m = []) ∨ ∃ t', t = m :: t') := by
  induction f with
  | zero => intro n Db N Eb M D E l m h; exact absurd h (by simp [chkS])
  | succ f ih =>
    intro n Db N Eb M D E l m h hf hNl hNm hl0 hl hD hDb hm hE hEb hB
    obtain ⟨n, rfl⟩ : ∃ n', n = n' + 1 := ⟨n - 1, by omega⟩
    unfold chkS at h
    simp only [Bool.and_eq_true, Bool.or_eq_true, decide_eq_true_eq, List.all_eq_true, List.mem_range] at h
    obtain ⟨hev, h⟩ := h
    have hsz : Szd X G l := ⟨D, N, hD, hl, evK_mono hev hDb⟩
    by_cases hm0 : m = []
    · subst hm0
      refine ⟨[], ?_, const_ev hNl (bz_const hNl hl0 hB), fun x hx => by rw [List.mem_singleton.1 hx]; exact hsz, .inl ⟨rfl, rfl⟩⟩
      show (if ([] : List Rat) = [] then some [l] else (nextO l []).bind fun r => (chainO n [] r).bind fun t => some (l :: t)) = _
      rw [if_pos rfl]
    · have hml : 0 < m.length := List.length_pos_iff.2 hm0
      obtain ⟨c1, c2, c3, c4, c5, c6⟩ := h.resolve_left (by omega)
      generalize hj : l.length + 1 - m.length = j at *
      obtain ⟨u, s, w', A, k1, k2, k3, k4, k5, k6, k7, k8, k9, k10, k11, k12⟩ := byc_ok (κ := 1) fac_one hl hD hNl hNl (fun i => (conv_ones _ i).symm) hm hE hm0 hNm hNm (fun i => (conv_ones _ i).symm) hj.symm (c1.mono hEb) (by rw [Nat.one_mul]; exact c2) (c3.mono (Nat.mul_le_mul_right _ hDb)) (by rw [Nat.one_mul]; exact c4)
        (fun i hi => (c5 i hi).mono (Nat.mul_le_mul_right _ (Nat.mul_le_mul_left _ hEb)))
      have hws : s = w' := NT_ext k5 k6 fun i => by rw [k8, conv_ones]
      subst hws
      have hA : D * A ^ j ≤ Db * M ^ j := Nat.mul_le_mul hDb (Nat.pow_le_pow_left k3 _)
      have key : ∃ r k E3, nextO l m = some r ∧ NT r ∧ r.length = s.length ∧ 0 < k ∧ (∀ i, cf s i = -k * cf r i) ∧ 0 < E3 ∧ E3 ≤ (if s.length = 1 then 1 else N * (2 * M) ^ j + 1) ∧ bdL E3 (if s.length = 1 then 1 else N * (2 * M) ^ j) r := by
        by_cases e : s = []
        · subst e
          refine ⟨[], 1, 1, ?_, Or.inl rfl, rfl, by decide, fun i => by rw [cf_nil]; grind, by decide, by rw [if_neg (by decide)]; omega, fun i => bd.zero _ _⟩
          unfold nextO
          rw [k1]
          show (if ([] : List Rat) = [] then some [] else (sizeO (lastC [])).bind fun z => overO [] z) = _
          rw [if_pos rfl]
        · obtain ⟨z, r, k, E3, z1, z2, z3, z4, z5, z6, z7, z8, z9, z10⟩ := size_ok k11 (Nat.mul_pos hD (Nat.pow_pos k2)) k5 e (c3.mono hA) c4
          have hnx : nextO l m = some r := by
            unfold nextO
            rw [k1]
            show (if s = [] then some [] else (sizeO (lastC s)).bind fun z => overO s z) = _
            rw [if_neg e, z1]
            exact z2
          by_cases l1 : s.length = 1
          · exact ⟨r, k, 1, hnx, z3, z4, z5, z6, by decide, by rw [if_pos l1]; omega, by rw [if_pos l1]; exact z10 l1⟩
          · exact ⟨r, k, E3, hnx, z3, z4, z5, z6, z7, by rw [if_neg l1]; omega, by rw [if_neg l1]; exact z9⟩
      obtain ⟨r, k, E3, r1, r2, r3, r4, r5, r6, r7, r8⟩ := key
      have hdiv : ∀ i, 1 * cf l i = conv (cf u) (cf m) i + -k * cf r i := fun i => by rw [← r5, k10]; grind
      have hB' : Bz (cf [1]) (cf m) (cf r) := by
        have b := Bz.next (k := 1) one_ne (Fs.cf u) (q := cf m) (r := fun i => -k * cf r i) hdiv hB
        obtain ⟨a, b, fa, fb, hab⟩ := b
        exact ⟨a, fun i => -k * b i, fa, fb.smul _, fun i => by rw [hab, conv_smulr, conv_smul]⟩
      obtain ⟨t, t1, t2, t3, t4⟩ := ih n Eb M (if s.length = 1 then 1 else N * (2 * M) ^ j + 1) (if s.length = 1 then 1 else N * (2 * M) ^ j) E E3 m r (by rw [r3]; exact c6 _ k7) (by omega) hNm r2 hm0 hm hE hEb r8 r6 r7 hB'
      refine ⟨m :: t, ?_, ?_, fun x hx => ?_, .inr ⟨t, rfl⟩⟩
      · show (if m = [] then some [l] else (nextO l m).bind fun r => (chainO n m r).bind fun t => some (l :: t)) = _
        rw [if_neg hm0, r1]
        show (chainO n m r).bind (fun t => some (l :: t)) = _
        rw [t1]; rfl
      · rcases t4 with ⟨rfl, _⟩ | ⟨t', rfl⟩
        · exact t2
        · refine ⟨⟨u, k, r4, fun x => ?_⟩, t2⟩
          have hs : ∀ i, 1 * cf l i = conv (cf u) (cf m) i + cf s i := fun i => by rw [k10]; grind
          have e1 := ev_div (x := x) hs
          have e2 : evP s x = -k * evP r x := by
            have := ev_div (x := x) (k := 1) (p := s) (u := [-k]) (q := r) (r := []) (fun i => by
              have hc : (cf [-k] : Nat → Rat) = cK (-k) := funext fun i => by
                cases i with
                | zero => rfl
                | succ i => rw [cf_succ]; unfold cK; rw [if_neg (by omega)]; rfl
              have k2 : conv (cK (-k)) (cf r) i = -k * cf r i := cK_conv (-k) (cf r) i
              rw [hc, k2, cf_nil, r5]; grind)
            rw [show evP [-k] x = -k by show (0 : Rat) * x + -k = -k; grind, show evP [] x = 0 from rfl] at this
            grind
          rw [e2] at e1
          grind
      · rcases List.mem_cons.1 hx with e | e
        · rw [e]; exact hsz
        · exact t3 x e

end Go.Proofs.YtffndcjmabjhiaaGreatDoor

namespace Go.Proofs.YtffndcjmabjhiaaGreatDoor
open Num

theorem mul_ok2 {p q : Rat} {k l : Nat} (hp : lim k p) (hq : lim l q) (h : k + l ≤ 199) : mulQ p q = some (p * q) := mul_lim hp hq (by omega)
theorem add_ok2 {p q : Rat} {k l : Nat} (hp : lim k p) (hq : lim l q) (h : k + l ≤ 199) : addQ p q = some (p + q) := add_lim hp hq h
theorem lim_zero (k : Nat) (h : 0 < k) : lim k 0 := by
  have : 10 ^ 1 ≤ 10 ^ k := Nat.pow_le_pow_right (by decide) h
  exact ⟨by show 0 < 10 ^ k; omega, by show 1 < 10 ^ k; omega⟩
theorem geo_mono {X : Nat} (hX : 0 < X) : ∀ {a b : Nat}, a ≤ b → geo X a ≤ geo X b := by
  intro a b h
  induction b with
  | zero => rw [show a = 0 by omega]; exact Nat.le_refl _
  | succ b ih =>
    by_cases e : a = b + 1
    · rw [e]; exact Nat.le_refl _
    · have := ih (by omega)
      show geo X a ≤ geo X b * X + 1
      have : geo X b * 1 ≤ geo X b * X := Nat.mul_le_mul_left _ hX
      omega

theorem evG_of {X E D N : Nat} {p : List Rat} {x : Rat} (hX : 0 < X) (hD : 0 < D) (hE : 0 < E) (hp : bdL D N p) (hK : evK X E D N p.length = true) (hx : bd E (X * E) x) (hE9 : E < 10 ^ 49) (hXE : X * E < 10 ^ 49) : EvG p x := by
  unfold evK at hK
  simp only [Bool.and_eq_true, decide_eq_true_eq] at hK
  obtain ⟨c1, c2, c3, c4, c5, c6⟩ := hK
  have hpw : ∀ a b : Nat, a ≤ b → E ^ a ≤ E ^ b := fun a b h => Nat.pow_le_pow_right hE h
  have hpp : ∀ a : Nat, 0 < E ^ a := fun a => Nat.pow_pos hE
  have hxl : lim 49 x := hx.limK hE hE9 hXE
  have hcl : ∀ i, lim 34 (cf p i) := fun i => (hp i).limK hD c1 c2
  have hb : ∀ pre : List (Fin p.length), pre ≠ [] → bd (D * E ^ (pre.length - 1)) (N * geo X pre.length * E ^ (pre.length - 1)) (Vl x p pre) ∧ ∀ i : Fin p.length, bd (D * E ^ pre.length) (N * geo X (pre.length + 1) * E ^ pre.length) (Vl x p (pre ++ [i])) ∧ bd (D * E ^ pre.length) (N * geo X (pre.length + 1) * E ^ pre.length) (Vl x p pre * x) := by
    have stp : ∀ (k : Nat) (s c : Rat), 0 < k → bd (D * E ^ (k - 1)) (N * geo X k * E ^ (k - 1)) s → bd D N c → bd (D * E ^ k) (N * geo X (k + 1) * E ^ k) (s * x + c) ∧ bd (D * E ^ k) (N * geo X (k + 1) * E ^ k) (s * x) := fun k s c hk hs hc => by
      have m := hs.mul hx
      have e1 : D * E ^ (k - 1) * E = D * E ^ k := by rw [Nat.mul_assoc, ← Nat.pow_succ, show (k - 1).succ = k by omega]
      have e2 : N * geo X k * E ^ (k - 1) * (X * E) = N * (geo X k * X) * E ^ k := by
        have : E ^ k = E ^ (k - 1) * E := by rw [← Nat.pow_succ, show (k - 1).succ = k by omega]
        rw [this]
        simp only [Nat.mul_assoc, Nat.mul_comm, Nat.mul_left_comm]
      rw [e1, e2] at m
      have c' := hc.scale (E ^ k)
      have e3 : N * (geo X k * X) * E ^ k + N * E ^ k = N * geo X (k + 1) * E ^ k := by
        show _ = N * (geo X k * X + 1) * E ^ k
        rw [Nat.mul_add, Nat.mul_one, Nat.add_mul]
      exact ⟨by rw [← e3]; exact m.add c', m.mono (by rw [← e3]; omega)⟩
    have fst : ∀ i : Fin p.length, Vl x p [i] = cf p i.1 := fun i => by show (0 : Rat) * x + cf p i.1 = _; grind
    intro pre
    rw [← List.reverse_reverse pre]
    induction pre.reverse with
    | nil => intro h; exact absurd rfl h
    | cons i l ih =>
      intro _
      rw [List.reverse_cons, List.length_append]
      show bd (D * E ^ (l.reverse.length + 1 - 1)) (N * geo X (l.reverse.length + 1) * E ^ (l.reverse.length + 1 - 1)) (Vl x p (l.reverse ++ [i])) ∧ ∀ j : Fin p.length, bd (D * E ^ (l.reverse.length + 1)) (N * geo X (l.reverse.length + 1 + 1) * E ^ (l.reverse.length + 1)) (Vl x p (l.reverse ++ [i] ++ [j])) ∧ bd (D * E ^ (l.reverse.length + 1)) (N * geo X (l.reverse.length + 1 + 1) * E ^ (l.reverse.length + 1)) (Vl x p (l.reverse ++ [i]) * x)
      have h1 : bd (D * E ^ (l.reverse.length + 1 - 1)) (N * geo X (l.reverse.length + 1) * E ^ (l.reverse.length + 1 - 1)) (Vl x p (l.reverse ++ [i])) := by
        by_cases e : l = []
        · subst e
          show bd (D * E ^ 0) (N * geo X 1 * E ^ 0) (Vl x p [i])
          rw [fst, Nat.pow_zero, Nat.mul_one, Nat.mul_one, show geo X 1 = 1 by show 0 * X + 1 = 1; omega, Nat.mul_one]
          exact hp _
        · exact ((ih (by simpa using e)).2 i).1
      refine ⟨h1, fun j => ?_⟩
      have := stp (l.reverse.length + 1) _ (cf p j.1) (by omega) h1 (hp _)
      rw [Vl_snoc x p (l.reverse ++ [i]) j]
      exact this
  have big : ∀ k, k ≤ p.length - 1 → D * E ^ k < 10 ^ 165 ∧ N * geo X (k + 1) * E ^ k < 10 ^ 165 := fun k hk =>
    ⟨Nat.lt_of_le_of_lt (Nat.mul_le_mul_left _ (hpw _ _ hk)) c3, by
      by_cases hl : p.length = 0
      · rw [hl] at hk
        have : k = 0 := by omega
        subst this
        rw [show geo X (0 + 1) = 1 by show 0 * X + 1 = 1; omega, Nat.pow_zero, Nat.mul_one, Nat.mul_one]
        exact Nat.lt_trans c2 (by decide)
      · exact Nat.lt_of_le_of_lt (Nat.mul_le_mul (Nat.mul_le_mul_left _ (geo_mono hX (by omega))) (hpw _ _ hk)) c4⟩
  have mid : ∀ k, k + 1 ≤ p.length - 1 → D * E ^ k < 10 ^ 150 ∧ N * geo X (k + 1) * E ^ k < 10 ^ 150 := fun k hk =>
    ⟨Nat.lt_of_le_of_lt (Nat.mul_le_mul_left _ (hpw _ _ (by omega))) c5, Nat.lt_of_le_of_lt (Nat.mul_le_mul (Nat.mul_le_mul_left _ (geo_mono hX (by omega))) (hpw _ _ (by omega))) c6⟩
  constructor
  · intro pre i hl
    refine ⟨Vl x p pre * x, ?_, ?_⟩
    · by_cases e : pre = []
      · subst e
        exact mul_ok2 (lim_zero 150 (by decide)) hxl (by decide)
      · have hlp := List.length_pos_iff.2 e
        obtain ⟨m1, m2⟩ := mid (pre.length - 1) (by omega)
        rw [show pre.length - 1 + 1 = pre.length by omega] at m2
        exact mul_ok2 ((hb pre e).1.limK (Nat.mul_pos hD (hpp _)) m1 m2) hxl (by decide)
    · rw [Vl_snoc]
      by_cases e : pre = []
      · subst e
        show addQ (0 * x) _ = some (0 * x + _)
        rw [show (0 : Rat) * x = 0 by grind]
        exact add_ok2 (lim_zero 165 (by decide)) (hcl _) (by decide)
      · have hlp := List.length_pos_iff.2 e
        obtain ⟨m1, m2⟩ := big pre.length (by omega)
        exact add_ok2 (((hb pre e).2 i).2.limK (Nat.mul_pos hD (hpp _)) m1 m2) (hcl _) (by decide)
  · intro pre hl
    by_cases e : pre = []
    · subst e; exact fit_zero'
    · have hlp := List.length_pos_iff.2 e
      obtain ⟨m1, m2⟩ := big (pre.length - 1) (by omega)
      rw [show pre.length - 1 + 1 = pre.length by omega] at m2
      exact lim.fit ((hb pre e).1.limK (Nat.mul_pos hD (hpp _)) m1 m2) (by decide)
theorem Szd.g {X E T : Nat} {l : List Rat} (h : Szd X (E * 2 ^ T) l) (hX : 0 < X) (hE : 0 < E) (h1 : E * 2 ^ T < 10 ^ 49) (h2 : X * (E * 2 ^ T) < 10 ^ 49) {x : Rat} (hx : Ab (X : Rat) x) (hg : Gd E T x) : EvG l x := by
  obtain ⟨D, N, hD, hb, hK⟩ := h
  exact evG_of hX hD (Nat.mul_pos hE (Nat.pow_pos (by decide))) hb hK (hg.bd hx) h1 h2

end Go.Proofs.YtffndcjmabjhiaaGreatDoor

namespace Go.Proofs.YtffndcjmabjhiaaGreatDoor
open Num

theorem chk_pd : ∀ a : Fin 5, chk 1 1 (a.1 + 1) (a.1 + 1) a.1 6 36 6 468 = true := by decide +kernel
theorem chk_sd : ∀ a : Fin 4, chk 1 1 (a.1 + 1) (a.1 + 1) a.1 6 490990896 6 6382881648 = true := by decide +kernel

/-- Euclid's algorithm for a polynomial and its derivative. -/
theorem eucl_d {N : Nat} {p d : List Rat} (hp : bdL 6 N p) (hNp : NT p) (h0 : p ≠ []) (hd : bdL 6 (13 * N) d) (hNd : NT d) (hl : d.length = p.length - 1) (hk : chk 1 1 p.length p.length (p.length - 1) 6 N 6 (13 * N) = true) :
    ∃ g, gcdO d.length p d = some g ∧ NT g ∧ g ≠ [] ∧ cf g (g.length - 1) = 1 ∧ Dv (cf g) (cf p) ∧ Dv (cf g) (cf d) ∧ Bz (cf g) (cf p) (cf d) := by
  have hpl : 0 < p.length := List.length_pos_iff.2 h0
  obtain ⟨g, m, g1, g2, m1, m2, g3, g4, dw, dt, bz⟩ := eucl (κ := 1) (Γ := 1) (γ := 1) fac_one rfl (by decide) p.length d.length 6 N 6 (13 * N) 6 6 p d p d (by rw [hl]; exact hk) (by omega) hNp hNd hNp hNd (fun i => (conv_ones _ i).symm) (fun i => (conv_ones _ i).symm) hp (by decide) (Nat.le_refl _) hd (by decide) (Nat.le_refl _) (Or.inl h0)
  have e : g = m := NT_ext g2 m1 fun i => by rw [g3, conv_ones]
  subst e
  exact ⟨g, g1, g2, m2, g4, dw, dt, bz⟩

/-- What the start of the chain gives. -/
structure StartR (p d g s e A : List Rat) (l : Rat) : Prop where
  hd : derivO p = some d
  vd : Vp d
  hg : gcdO d.length p d = some g
  vg : Vp g
  hs : byO p g = some (s, [])
  vs : Vp s
  s0 : s ≠ []
  he : derivO s = some e
  ne : NT e
  el : e.length = s.length - 1
  ec : ∀ i, cf e i = dcf (cf s) i
  bz : Bz (cf [1]) (cf s) (cf e)
  l0 : l ≠ 0
  Al : ∀ i, cf A i = l * cf s i
  An : NT A
  Ae : A.length = s.length
  sz : (s.length = 5 ∧ bdL 1 36 A ∧ bdL 6 36 s ∧ bdL 6 468 e) ∨ (s.length ≤ 4 ∧ bdL 1 13638636 A ∧ bdL 6 490990896 s ∧ bdL 6 6382881648 e)

theorem ps_glue {S G P T D a b : PS} (hs : ∀ i, conv S G i = P i) (hT : ∀ i, conv T G i = D i) (hd : ∀ i, D i = dcf P i) (hab : ∀ i, G i = conv a P i + conv b D i) : dP (S * G) = T * G ∧ a * (S * G) + b * (T * G) = G := by
  have e1 : S * G = P := PS.ext hs
  have e2 : T * G = D := PS.ext hT
  rw [e1, e2]
  exact ⟨PS.ext fun i => (hd i).symm, PS.ext fun i => (hab i).symm⟩
/-- The quotient by the greatest common divisor has no divisor in common with its derivative. -/
theorem free_of {N : Nat} {p d g s e : List Rat} (hd : ∀ i, cf d i = dcf (cf p) i) (g0 : g ≠ []) (gn : NT g) (hs : ∀ i, conv (cf s) (cf g) i = cf p i) (hgd : Dv (cf g) (cf d)) (hB : Bz (cf g) (cf p) (cf d)) (ns : NT s) (s0 : s ≠ []) (ne : NT e) (el : e.length = s.length - 1) (ec : ∀ i, cf e i = dcf (cf s) i)
    (bs : bdL 6 N s) (be : bdL 6 (13 * N) e) (hk : chk 1 1 s.length s.length (s.length - 1) 6 N 6 (13 * N) = true) : Bz (cf [1]) (cf s) (cf e) := by
  obtain ⟨h, _, h2, h3, h4, ⟨F1, fF1, hF1⟩, ⟨F2, fF2, hF2⟩, bz⟩ := eucl_d bs ns s0 be ne el hk
  obtain ⟨T, fT, hT⟩ := hgd
  obtain ⟨a, b, fa, fb, hab⟩ := hB
  have hz := sqfree (F := cf s) (G := cf g) (T := T) (A := a) (B := b) (H := cf h) (F1 := F1) (F2 := F2) (Fs.cf s) (Fs.cf g) fT fa fb fF1 fF2 (Fs.cf h) ⟨_, gn.lead g0⟩
    (ps_glue hs hT hd hab).1 (ps_glue hs hT hd hab).2
    (PS.ext hF1) (PS.ext fun i => by
      have : conv F2 (cf h) i = dcf (cf s) i := by rw [hF2, ec]
      exact this)
  have hl : h.length = 1 := by
    have := List.length_pos_iff.2 h3
    apply Classical.byContradiction
    intro c
    have := hz (h.length - 1) (by omega)
    rw [h4] at this
    exact absurd this (by decide)
  have h1 : h = [1] := cf_ext hl fun i hi => by
    obtain rfl : i = 0 := by omega
    rw [hl] at h4; exact h4
  rw [← h1]; exact bz

theorem start_in {p : List Rat} (hp : In p) (h0 : p ≠ []) : ∃ d g s e A l, StartR p d g s e A l := by
  have r1 : ((1 : Nat) : Rat) = 1 := rfl
  have r6 : ((6 : Nat) : Rat) = 6 := rfl
  have hpl : 0 < p.length := List.length_pos_iff.2 h0
  have hp5 := hp.1
  have hNp := hp.2.1
  obtain ⟨d, d1, d2, d3, d4, d5⟩ := deriv_ok hp.2.2 (by decide) hNp (by omega) (by decide) (by decide)
  obtain ⟨g, g1, g2, g3, g4, dp, dd, bz⟩ := eucl_d hp.2.2 hNp h0 d5 d2 d3 (by
    have := chk_pd ⟨p.length - 1, by omega⟩
    rw [show p.length - 1 + 1 = p.length by omega] at this; exact this)
  have hgl : 0 < g.length := List.length_pos_iff.2 g3
  -- g, with integer coefficients
  obtain ⟨l, l0, zG, zA⟩ := fac_int (Fs.cf g) (g2.lead g3)
  have zG' : Dz 1 (cf (scl l g)) := zG.congr fun i => (scl_cf l g i).symm
  have hGl : (scl l g).length = g.length := scl_len l0 g2
  have hli : l * l⁻¹ = 1 := Rat.mul_inv_cancel _ l0
  obtain ⟨ax, nax, hax⟩ := dp.list
  have int6 : bdL 1 36 (scl 6 p) := fun i => by
    obtain ⟨z, h1, h2⟩ := hp.2.2 i
    exact int_bd1 h1 (by rw [scl_cf, ← h2, r6]; grind)
  have dz6 : Dz 1 (cf (scl 6 p)) := fun i => by
    obtain ⟨z, _, h2⟩ := bd1_int (int6 i)
    exact ⟨z, by rw [h2, r1]; grind⟩
  have zx : Dz 1 (cf (scl (l⁻¹ * 6) ax)) := (zA (fun i => 6 * cf ax i) (cf (scl 6 p)) ((Fs.cf ax).smul _) dz6 (fun i => by rw [conv_smul, hax, scl_cf])).congr fun i => by rw [scl_cf]; grind
  have ex : ∀ j, cf (scl 6 p) j = conv (cf (scl (l⁻¹ * 6) ax)) (cf (scl l g)) j := fun j => by
    rw [conv_congr (scl_cf (l⁻¹ * 6) ax) (scl_cf l g), conv_smul, conv_smulr, hax, scl_cf]; grind
  have h6l : (scl 6 p).length = p.length := scl_len (by decide) hNp
  have h60 : scl 6 p ≠ [] := fun e => h0 (List.eq_nil_of_length_eq_zero (by rw [← h6l, e]; rfl))
  have h6n : ∃ i, cf (scl 6 p) i ≠ 0 := ⟨_, (scl_NT 6 p).lead h60⟩
  have bG : bdL 1 136398636 (scl l g) := by
    rw [← cI4]
    have := dp.len g2 g3 hNp h0
    exact factor_small int6 (by omega) h6n zx zG' ex 4 (by decide) (fun i hi => cf_past (by omega))
  -- the leading coefficient
  obtain ⟨ℓ, hℓ⟩ : ∃ ℓ : Int, l = (ℓ : Rat) := by
    obtain ⟨z, hz⟩ := zG' (g.length - 1)
    rw [scl_cf, g4, r1] at hz
    exact ⟨z, by grind⟩
  have hℓ0 : ℓ ≠ 0 := fun e => l0 (by rw [hℓ, e]; rfl)
  have hGne : scl l g ≠ [] := fun e => g3 (List.eq_nil_of_length_eq_zero (by rw [← hGl, e]; rfl))
  have hℓ36 : ℓ.natAbs ≤ 36 := by
    have hA0 : scl (l⁻¹ * 6) ax ≠ [] := fun e => h60 ((scl_NT 6 p).none fun i => by rw [ex, e]; exact conv_zero (P := cf []) (fun _ => rfl) i)
    have ht := (fac_len hGne (scl_NT l g) (scl_NT _ ax) hA0 (scl_NT 6 p) ex).2
    obtain ⟨f, hf1, hf2⟩ := bd1_int (int6 ((scl 6 p).length - 1))
    obtain ⟨s, hs⟩ := zx ((scl (l⁻¹ * 6) ax).length - 1)
    rw [hf2, hs, hGl, scl_cf, g4, hℓ, r1] at ht
    have e2 : f = s * ℓ := by
      have : ((f : Int) : Rat) = ((s * ℓ : Int) : Rat) := by rw [ht, Rat.intCast_mul]; grind
      exact Rat.intCast_inj.1 this
    have hf0 : f ≠ 0 := fun e => (scl_NT 6 p).lead h60 (by rw [hf2, e]; rfl)
    have hs0 : s ≠ 0 := fun c => hf0 (by rw [e2, c]; simp)
    have : f.natAbs = s.natAbs * ℓ.natAbs := by rw [e2, Int.natAbs_mul]
    have h1 : 1 ≤ s.natAbs := by omega
    have h2 : 1 * ℓ.natAbs ≤ s.natAbs * ℓ.natAbs := Nat.mul_le_mul_right _ h1
    omega
  have bg : bdL ℓ.natAbs 136398636 g := fun i => by
    obtain ⟨z, h1, h2⟩ := bd1_int (bG i)
    rw [scl_cf, hℓ] at h2
    by_cases c : 0 ≤ ℓ
    · refine ⟨z, h1, ?_⟩
      have e1 : ((ℓ.natAbs : Nat) : Int) = ℓ := by omega
      have e2 : ((ℓ.natAbs : Nat) : Rat) = (ℓ : Rat) := by
        have : ((ℓ.natAbs : Nat) : Rat) = (((ℓ.natAbs : Nat) : Int) : Rat) := rfl
        rw [this, e1]
      rw [e2, ← h2]; grind
    · refine ⟨-z, by omega, ?_⟩
      have e1 : ((ℓ.natAbs : Nat) : Int) = -ℓ := by omega
      have e2 : ((ℓ.natAbs : Nat) : Rat) = ((-ℓ : Int) : Rat) := by
        have : ((ℓ.natAbs : Nat) : Rat) = (((ℓ.natAbs : Nat) : Int) : Rat) := rfl
        rw [this, e1]
      rw [e2, Rat.intCast_neg, Rat.intCast_neg, ← h2]; grind
  have hLp : 0 < ℓ.natAbs := by omega
  have lL : Lo9 ℓ.natAbs := Lo9.mono (b := 36) (by decide) hℓ36
  have hg5 := dp.len g2 g3 hNp h0
  obtain ⟨s, s1, s2, s3, s4, s5⟩ := div_exact (n := 5) fac_one hp.2.2 (by decide) hNp hNp (fun i => (conv_ones _ i).symm) bg hLp g3 g2 g2 (fun i => (conv_ones _ i).symm) hax hp5 lL (by decide) (by decide) (by decide) (Lo9.mono (b := 36 * 36 * (2 * 136398636) ^ 5) (by decide) (Nat.mul_le_mul_right _ (Nat.mul_le_mul_left _ hℓ36))) (by decide)
  have hsg : ∀ i, conv (cf s) (cf g) i = cf p i := fun i => by rw [conv_congr s5 (fun _ => rfl), hax]
  have s0 : s ≠ [] := fun e => h0 (hNp.none fun i => by rw [← hsg, e]; exact conv_zero (P := cf []) (fun _ => rfl) i)
  have hsl := (fac_len g3 g2 s2 s0 hNp (fun i => (hsg i).symm)).1
  have hsp : 0 < s.length := List.length_pos_iff.2 s0
  have vg : Vp g := ⟨by omega, g2, fun i => lim.fit ((bg i).lim99 hLp lL (by decide)) (by decide)⟩
  have vd : Vp d := ⟨by omega, d2, fun i => lim.fit ((d5 i).lim99 (by decide) (by decide) (by decide)) (by decide)⟩
  have vs : Vp s := ⟨by omega, s2, s4⟩
  -- the sizes of the quotient
  have key : ∃ A l', l' ≠ 0 ∧ (∀ i, cf A i = l' * cf s i) ∧ NT A ∧ A.length = s.length ∧ ((s.length = 5 ∧ bdL 1 36 A ∧ bdL 6 36 s) ∨ (s.length ≤ 4 ∧ bdL 1 13638636 A ∧ bdL 6 490990896 s)) := by
    by_cases hg1 : g.length = 1
    · have e1 : g = [1] := cf_ext hg1 fun i hi => by
        obtain rfl : i = 0 := by omega
        rw [hg1] at g4; exact g4
      have es : s = p := NT_ext s2 hNp fun i => by rw [← hsg, e1, conv_ones]
      subst es
      refine ⟨scl 6 s, 6, by decide, scl_cf 6 s, scl_NT 6 s, h6l, ?_⟩
      by_cases h5 : s.length = 5
      · exact .inl ⟨h5, int6, hp.2.2⟩
      · exact .inr ⟨by omega, fun i => (int6 i).mono (by decide), fun i => (hp.2.2 i).mono (by decide)⟩
    · have hA : ∀ i, cf (scl (l⁻¹ * 6) ax) i = l⁻¹ * 6 * cf s i := fun i => by rw [scl_cf, s5]
      have hk0 : l⁻¹ * 6 ≠ 0 := fun e => by
        rcases Rat.mul_eq_zero.1 e with c | c
        · rw [c] at hli; exact absurd hli (by grind)
        · exact absurd c (by decide)
      have hAl : (scl (l⁻¹ * 6) ax).length = s.length := by
        have e : ax = s := NT_ext nax s2 fun i => (s5 i).symm
        rw [e]; exact scl_len hk0 s2
      have hb : bdL 1 13638636 (scl (l⁻¹ * 6) ax) := by
        rw [← cI3]
        exact factor_small int6 (by omega) h6n zG' zx (fun j => by rw [ex, conv_comm]) 3 (by decide) (fun i hi => cf_past (by omega))
      refine ⟨_, l⁻¹ * 6, hk0, hA, scl_NT _ ax, hAl, .inr ⟨by omega, hb, fun i => ?_⟩⟩
      obtain ⟨z, h1, h2⟩ := bd1_int (hb i)
      refine ⟨z * ℓ, ?_, ?_⟩
      · rw [Int.natAbs_mul, show 490990896 = 13638636 * 36 from rfl]
        exact Nat.mul_le_mul h1 hℓ36
      · rw [hA] at h2
        rw [Rat.intCast_mul, ← hℓ, ← h2, r6]; grind
  obtain ⟨A, l', a1, a2, a3, a4, a5⟩ := key
  rcases a5 with ⟨c1, c2, c3⟩ | ⟨c1, c2, c3⟩
  · obtain ⟨e, e1, e2, e3, e4, e5⟩ := deriv_ok c3 (by decide) s2 (by omega) (by decide) (by decide)
    refine ⟨d, g, s, e, A, l', d1, vd, g1, vg, s1, vs, s0, e1, e2, e3, e4, ?_, a1, a2, a3, a4, .inl ⟨c1, c2, c3, e5⟩⟩
    exact free_of d4 g3 g2 hsg dd bz s2 s0 e2 e3 e4 c3 e5 (by
      have := chk_pd ⟨s.length - 1, by omega⟩
      rw [show s.length - 1 + 1 = s.length by omega] at this; exact this)
  · obtain ⟨e, e1, e2, e3, e4, e5⟩ := deriv_ok c3 (by decide) s2 (by omega) (by decide) (by decide)
    refine ⟨d, g, s, e, A, l', d1, vd, g1, vg, s1, vs, s0, e1, e2, e3, e4, ?_, a1, a2, a3, a4, .inr ⟨c1, c2, c3, e5⟩⟩
    exact free_of d4 g3 g2 hsg dd bz s2 s0 e2 e3 e4 c3 e5 (by
      have := chk_sd ⟨s.length - 1, by omega⟩
      rw [show s.length - 1 + 1 = s.length by omega] at this; exact this)

end Go.Proofs.YtffndcjmabjhiaaGreatDoor

namespace Go.Proofs.YtffndcjmabjhiaaGreatDoor
open Num

theorem conv_two (b c : Rat) (P : Nat → Rat) (j : Nat) : conv (cf [b, c]) P j = b * P j + (if 1 ≤ j then c * P (j - 1) else 0) := by
  have e : ∀ i, cf [b, c] i = cf (mono b 0) i + cf (mono c 1) i := fun i => by
    rw [mono_cf, mono_cf]
    match i with
    | 0 => rw [if_pos rfl, if_neg (by omega), cf_zero]; grind
    | 1 => rw [if_neg (by omega), if_pos rfl, cf_succ, cf_zero]; grind
    | i + 2 => rw [if_neg (by omega), if_neg (by omega), cf_succ, cf_succ, cf_nil]; grind
  rw [conv_congr e (fun _ => rfl), conv_addl, mono_conv, mono_conv]
  unfold shf
  rw [if_pos (Nat.zero_le _), Nat.sub_zero]
theorem bd_cast (k : Nat) : bd 1 k (k : Rat) := ⟨(k : Int), by omega, by rw [show ((1 : Nat) : Rat) = 1 from rfl]; have : ((k : Int) : Rat) = (k : Rat) := rfl; rw [this]; grind⟩
theorem bd1_mul {N M : Nat} {a b : Rat} (h : bd 1 N a) (k : bd 1 M b) : bd 1 (N * M) (a * b) := h.mul k
/-- The first rest, without fractions. -/
theorem rest_two {N n : Nat} {A D : List Rat} (hn : A.length = n + 1) (hA : bdL 1 N A) (hD : ∀ i, cf D i = dcf (cf A) i) :
    ∃ r, (∀ i, ((n * n : Nat) : Rat) * cf A n * cf A i = conv (cf [cf A (n - 1), (n : Rat) * cf A n]) (cf D) i + cf r i) ∧ NT r ∧ r.length ≤ n - 1 ∧ bdL 1 ((n * n + n) * (N * N)) r := by
  have hz : ∀ i, n < i → cf A i = 0 := fun i hi => cf_past (by omega)
  have form : ∀ i, ((n * n : Nat) : Rat) * cf A n * cf A i - conv (cf [cf A (n - 1), (n : Rat) * cf A n]) (cf D) i = (n : Rat) * ((n : Rat) - (i : Rat)) * (cf A n * cf A i) - ((i + 1 : Nat) : Rat) * (cf A (n - 1) * cf A (i + 1)) := fun i => by
    rw [conv_two, hD, Rat.natCast_mul]
    unfold dcf
    by_cases c : 1 ≤ i
    · rw [if_pos c, hD]
      unfold dcf
      rw [show i - 1 + 1 = i by omega]
      grind
    · obtain rfl : i = 0 := by omega
      rw [if_neg (by omega), show ((0 : Nat) : Rat) = 0 from rfl]
      grind
  have hR : ∀ i, n - 1 ≤ i → ((n * n : Nat) : Rat) * cf A n * cf A i - conv (cf [cf A (n - 1), (n : Rat) * cf A n]) (cf D) i = 0 := fun i hi => by
    rw [form]
    by_cases c : n < i
    · rw [hz i c, hz (i + 1) (by omega)]; grind
    · by_cases c2 : i = n
      · rw [c2, hz (n + 1) (by omega)]; grind
      · have e : i + 1 = n := by omega
        have e2 : n - 1 = i := by omega
        rw [e, e2]
        have e3 : (n : Rat) = (i : Rat) + 1 := by rw [← e, Rat.natCast_add]; rfl
        rw [e3]; grind
  have h1 := lst_cf hR
  have h2 := lst_len (n - 1) (fun i => ((n * n : Nat) : Rat) * cf A n * cf A i - conv (cf [cf A (n - 1), (n : Rat) * cf A n]) (cf D) i)
  have h3 := lst_NT (n - 1) (fun i => ((n * n : Nat) : Rat) * cf A n * cf A i - conv (cf [cf A (n - 1), (n : Rat) * cf A n]) (cf D) i)
  refine ⟨_, fun i => ?_, h3, h2, fun i => ?_⟩
  · rw [h1]; grind
  · rw [h1]
    show bd 1 _ (((n * n : Nat) : Rat) * cf A n * cf A i - conv (cf [cf A (n - 1), (n : Rat) * cf A n]) (cf D) i)
    by_cases c : n - 1 ≤ i
    · rw [hR i c]; exact bd.zero _ _
    · rw [form]
      have e : (n : Rat) - (i : Rat) = ((n - i : Nat) : Rat) := by
        have : ((n - i + i : Nat) : Rat) = (n : Rat) := by rw [show n - i + i = n by omega]
        rw [Rat.natCast_add] at this; grind
      rw [e]
      have b1 := bd1_mul (bd1_mul (bd_cast n) (bd_cast (n - i))) (bd1_mul (hA n) (hA i))
      have b2 := bd1_mul (bd_cast (i + 1)) (bd1_mul (hA (n - 1)) (hA (i + 1)))
      refine (b1.sub b2).mono ?_
      have e4 : n * (n - i) * (N * N) + (i + 1) * (N * N) = (n * (n - i) + (i + 1)) * (N * N) := (Nat.add_mul _ _ _).symm
      rw [e4]
      exact Nat.mul_le_mul_right _ (Nat.add_le_add (Nat.mul_le_mul_left _ (by omega)) (by omega))
theorem deriv_bd {N n : Nat} {A D : List Rat} (hn : A.length = n + 1) (hA : bdL 1 N A) (hD : ∀ i, cf D i = dcf (cf A) i) : bdL 1 (n * N) D := fun i => by
  rw [hD]
  unfold dcf
  by_cases c : i + 1 ≤ n
  · exact (bd1_mul (bd_cast (i + 1)) (hA (i + 1))).mono (Nat.mul_le_mul_right _ c)
  · rw [cf_past (by omega), show ((i + 1 : Nat) : Rat) * 0 = 0 by grind]; exact bd.zero _ _

theorem far_nb {X K N n : Nat} {η : Rat} {A D : List Rat} (hη : 0 < η) (hK : (K : Rat) * η = 1) (hK1 : 1 < K) (hA : bdL 1 N A) (nA : NT A) (hn : A.length = n + 1) (hD : ∀ i, cf D i = dcf (cf A) i) (nD : NT D) (hDl : D.length = n) (hB : Bz (cf [1]) (cf A) (cf D))
    (hc : ∀ l, l < n → chkZ X K 5 n l (n * N) ((n * n + n) * (N * N)) 1 (n * n * N + n * N * X + N) = true) : ∀ x, Ab (X : Rat) x → Ab η (evP A x) → Ab η (evP D x) → False := by
  intro x hx h1 h2
  have A0 : A ≠ [] := fun e => by rw [e] at hn; simp at hn
  have e1 : ((1 : Nat) : Rat) * η = η := by rw [show ((1 : Nat) : Rat) = 1 from rfl]; grind
  by_cases hn0 : n = 0
  · have hDn : D = [] := List.eq_nil_of_length_eq_zero (by omega)
    subst hDn
    refine prs hη hK 1 A [] N 0 1 1 ?_ nA NT.nil A0 hA (fun i => bd.zero _ _) hB x hx (by rw [e1]; exact h1) (by rw [e1]; exact h2)
    unfold chkZ
    show (if (0 : Nat) = 0 then decide (1 < K) else _) = true
    rw [if_pos rfl, decide_eq_true_eq]; exact hK1
  · have D0 : D ≠ [] := fun e => by rw [e] at hDl; simp at hDl; omega
    obtain ⟨r, r1, r2, r3, r4⟩ := rest_two hn hA hD
    have hk0 : ((n * n : Nat) : Rat) * cf A n ≠ 0 := fun e => by
      rcases Rat.mul_eq_zero.1 e with c | c
      · have : n * n = 0 := by exact_mod_cast c
        have := Nat.mul_pos (show 0 < n by omega) (show 0 < n by omega)
        omega
      · have := nA.lead A0
        rw [hn] at this
        exact this c
    have ev := ev_div (x := x) r1
    have u1 : Ab ((n * N * X + N : Nat) : Rat) (evP [cf A (n - 1), (n : Rat) * cf A n] x) := by
      have h3 := ((bd_ab (bd1_mul (bd_cast n) (hA n))).mul hx).add (bd_ab (hA (n - 1)))
      have e2 : evP [cf A (n - 1), (n : Rat) * cf A n] x = (n : Rat) * cf A n * x + cf A (n - 1) := by
        show ((0 : Rat) * x + (n : Rat) * cf A n) * x + cf A (n - 1) = _
        grind
      rw [e2, Rat.natCast_add, Rat.natCast_mul]; exact h3
    have b := ((bd_ab (bd1_mul (bd_cast (n * n)) (hA n))).mul h1).sub (u1.mul h2)
    have e3 : ((n * n : Nat) : Rat) * cf A n * evP A x - evP [cf A (n - 1), (n : Rat) * cf A n] x * evP D x = evP r x := by rw [ev]; grind
    rw [e3] at b
    refine prs hη hK 5 D r (n * N) ((n * n + n) * (N * N)) 1 (n * n * N + n * N * X + N) (by rw [hDl]; exact hc r.length (by omega)) nD r2 D0 (deriv_bd hn hA hD) r4 (Bz.next hk0 (Fs.cf _) r1 hB) x hx (by rw [e1]; exact h2) (b.mono ?_)
    rw [Rat.natCast_add, Rat.natCast_add, Rat.natCast_add]
    grind

/-- The places at which a small polynomial and its chain can be computed. -/
def okT (T : Nat) (x : Rat) : Bool := decide ((x * ((3 * 2 ^ T : Nat) : Rat)).den = 1) && (decide (-20 ≤ x) && decide (x ≤ 20))
theorem okT_iff {T : Nat} {x : Rat} : okT T x = true ↔ Gd 3 T x ∧ Ab ((20 : Nat) : Rat) x := by
  unfold okT
  rw [Bool.and_eq_true, Bool.and_eq_true, decide_eq_true_eq, decide_eq_true_eq, decide_eq_true_eq]
  refine ⟨fun ⟨h1, h2, h3⟩ => ⟨⟨_, Rat.ext (Rat.num_intCast _).symm (by rw [h1, Rat.den_intCast])⟩, h2, h3⟩, fun ⟨⟨z, h1⟩, h2, h3⟩ => ⟨by rw [h1, Rat.den_intCast], h2, h3⟩⟩

/-- A small polynomial: the theorem of Sturm, and all that the search for its roots needs. -/
structure InS (p d g s : List Rat) (ls : List (List Rat)) (T : Nat) (e : Rat) : Prop where
  hd : derivO p = some d
  vd : Vp d
  hg : gcdO d.length p d = some g
  vg : Vp g
  hs : byO p g = some (s, [])
  vs : Vp s
  hst : sturmO p = some ls
  st : Sturm s ls
  pe : ∀ x, Ab ((20 : Nat) : Rat) x → Gd 3 T x → fitQ x ∧ ∀ l ∈ ls, EvG l x
  e0 : 0 < e
  es : e ≤ 1 / 1000000
  bis : ∀ most, e ≤ most → Bis 20 3 T s ls most e (okT T)
  T1 : 1 ≤ T
  wide : 40 / 3 ≤ e * ((2 ^ (T - 1) : Nat) : Rat)

theorem chk_c4 : chkS 20 (3 * 2 ^ 129) 6 5 4 6 36 6 468 = true := by decide +kernel
theorem chk_c3 : ∀ a : Fin 4, chkS 20 (3 * 2 ^ 155) 6 (a.1 + 1) a.1 6 490990896 6 6382881648 = true := by decide +kernel
theorem chk_z4 : ∀ l : Fin 4, chkZ 20 (10 ^ 30) 5 4 l.1 (4 * 36) ((4 * 4 + 4) * (36 * 36)) 1 (4 * 4 * 36 + 4 * 36 * 20 + 36) = true := by decide +kernel
theorem chk_z3 : ∀ n l : Fin 4, l.1 < n.1 → chkZ 20 (10 ^ 34) 5 n.1 l.1 (n.1 * 13638636) ((n.1 * n.1 + n.1) * (13638636 * 13638636)) 1 (n.1 * n.1 * 13638636 + n.1 * 13638636 * 20 + 13638636) = true := by decide +kernel

end Go.Proofs.YtffndcjmabjhiaaGreatDoor

namespace Go.Proofs.YtffndcjmabjhiaaGreatDoor
open Num

theorem ev_scale {l : Rat} {s A : List Rat} (h : ∀ i, cf A i = l * cf s i) (x : Rat) : evP A x = l * evP s x := by
  have := ev_div (k := l) (x := x) (p := s) (u := []) (q := []) (r := A) (fun i => by rw [conv_zero (P := cf []) (fun _ => rfl), h]; grind)
  rw [show evP [] x = 0 from rfl] at this
  grind
theorem Bz.scale {l : Rat} (hl : l ≠ 0) {s e A D : Nat → Rat} (hA : ∀ i, A i = l * s i) (hD : ∀ i, D i = l * e i) (h : Bz (cf [1]) s e) : Bz (cf [1]) A D := by
  obtain ⟨a, b, fa, fb, hab⟩ := h
  have hli : l * l⁻¹ = 1 := Rat.mul_inv_cancel _ hl
  refine ⟨fun i => l⁻¹ * a i, fun i => l⁻¹ * b i, fa.smul _, fb.smul _, fun i => ?_⟩
  rw [hab, conv_congr (Q := A) (fun _ => rfl) hA, conv_congr (Q := D) (fun _ => rfl) hD, conv_smul, conv_smul, conv_smulr, conv_smulr]
  grind
theorem ab_list {N : Nat} {l : List Rat} (h : bdL 1 N l) : ∀ a ∈ l, Ab (N : Rat) a := fun a ha => by
  obtain ⟨i, hi, e⟩ := List.getElem_of_mem ha
  have := h i
  rw [cf_at hi, e] at this
  exact bd_ab this

set_option maxHeartbeats 1000000 in
theorem mk_in {p d g s e A : List Rat} {l : Rat} {T N K n Ns Ne : Nat} {L c : Rat} (h : StartR p d g s e A l) (hA : bdL 1 N A) (hs : bdL 6 Ns s) (he : bdL 6 Ne e) (hn : s.length = n + 1)
    (k1 : chkS 20 (3 * 2 ^ T) 6 s.length e.length 6 Ns 6 Ne = true) (k2 : ∀ l, l < n → chkZ 20 K 5 n l (n * N) ((n * n + n) * (N * N)) 1 (n * n * N + n * N * 20 + N) = true) (hK : 1 < K)
    (L1 : nB1 ((20 : Nat) : Rat) (N : Rat) (n + 1) ≤ L) (L2 : nB1 ((20 : Nat) : Rat) ((n * N : Nat) : Rat) n ≤ L) (L3 : nB2 ((20 : Nat) : Rat) (N : Rat) (n + 1) ≤ L) (hc : 0 < c) (hcL : 8 * L * (K : Rat) * c ≤ 1) (hcs : c ≤ 1 / 1000000)
    (wide : 40 / 3 ≤ c * ((2 ^ (T - 1) : Nat) : Rat)) (hT : 1 ≤ T) (z1 : 3 * 2 ^ T < 10 ^ 49) (z2 : 20 * (3 * 2 ^ T) < 10 ^ 49) : ∃ ls, InS p d g s ls T c := by
  have hX : (0 : Rat) ≤ ((20 : Nat) : Rat) := Rat.natCast_nonneg
  have hKp : (0 : Rat) < (K : Rat) := by
    have : ((0 : Int) : Rat) < ((K : Int) : Rat) := Rat.intCast_lt_intCast.2 (by omega)
    exact this
  obtain ⟨η, hη, hKη⟩ : ∃ η : Rat, 0 < η ∧ (K : Rat) * η = 1 := ⟨(K : Rat)⁻¹, Rat.inv_pos.2 hKp, Rat.mul_inv_cancel _ (by grind)⟩
  have hLc : L * c ≤ η / 8 := by
    refine le_cancel hKp ?_
    have : (K : Rat) * (η / 8) = 1 / 8 := by
      have e1 : (K : Rat) * (η / 8) = ((K : Rat) * η) / 8 := by grind
      rw [e1, hKη]
    rw [this]; grind
  obtain ⟨t, t1, t2, t3, t4⟩ := chain_ok (X := 20) (G := 3 * 2 ^ T) 6 14 6 Ns 6 Ne 6 6 s e k1 (by decide) h.vs.2.1 h.ne h.s0 hs (by decide) (Nat.le_refl _) he (by decide) (Nat.le_refl _) h.bz
  have st : Sturm s (s :: t) := ⟨t2, t, rfl, fun D t' hD => by
    rcases t4 with ⟨e1, _⟩ | ⟨t'', e1⟩
    · rw [e1] at hD; cases hD
    · rw [e1] at hD
      cases hD
      exact h.ec⟩
  have hst : sturmO p = some (s :: t) := by
    unfold sturmO startO
    rw [h.hd]
    show ((gcdO d.length p d).bind fun g => (byO p g).bind fun q => (derivO q.1).bind fun e => some (q.1, e)).bind _ = _
    rw [h.hg]
    show ((byO p g).bind fun q => (derivO q.1).bind fun e => some (q.1, e)).bind _ = _
    rw [h.hs]
    show ((derivO s).bind fun e => some (s, e)).bind _ = _
    rw [h.he]
    exact t1
  -- the derivative of A
  have hD : ∀ i, cf (scl l e) i = dcf (cf A) i := fun i => by
    rw [scl_cf, h.ec]; unfold dcf; rw [h.Al]; grind
  have hDl : (scl l e).length = n := by rw [scl_len h.l0 h.ne, h.el, hn]; omega
  have hAn : A.length = n + 1 := by rw [h.Ae, hn]
  have nb := far_nb (X := 20) hη hKη hK hA h.An hAn hD (scl_NT l e) hDl (Bz.scale h.l0 h.Al (scl_cf l e) h.bz) k2
  have bD := deriv_bd hAn hA hD
  have far : Far ((20 : Nat) : Rat) η c A (scl l e) := ⟨hX, hη, hD, nb, by
      have a := mul_up (Rat.le_trans (nrm1_le hX (Rat.natCast_nonneg) (n + 1) A (by omega) (ab_list hA)) L1) (c := c) (by grind)
      grind, by
      have a := mul_up (Rat.le_trans (nrm1_le hX (Rat.natCast_nonneg) n (scl l e) (by omega) (ab_list bD)) L2) (c := c) (by grind)
      grind, by
      have a := mul_up (Rat.le_trans (nrm2_le hX (Rat.natCast_nonneg) (n + 1) A (by omega) (ab_list hA)) L3) (c := c) (by grind)
      grind⟩
  have hE : 0 < 3 * 2 ^ T := Nat.mul_pos (by decide) (Nat.pow_pos (by decide))
  refine ⟨s :: t, h.hd, h.vd, h.hg, h.vg, h.hs, h.vs, hst, st, fun x hx hg => ⟨lim.fit ((hg.bd hx).limK hE z1 z2) (by decide), fun m hm => (t3 m hm).g (by decide) (by decide) z1 z2 hx hg⟩, hc, hcs, fun most hm => ⟨st, fun a b ha hb hab hw hne => ?_, fun x hx hg => okT_iff.2 ⟨hg, hx⟩, by decide, ?_, ?_⟩, hT, wide⟩
  · rcases st.sep far h.l0 (ev_scale h.Al) ha hb hab hw with c1 | ⟨c1, c2⟩
    · exact absurd c1 hne
    · exact ⟨c1, by grind, .inr ((root_no st a).2 c2)⟩
  · exact Nat.lt_trans z1 (by decide)
  · have : 2 * 20 * (3 * 2 ^ T) = 2 * (20 * (3 * 2 ^ T)) := by omega
    rw [this]
    show 2 * (20 * (3 * 2 ^ T)) < 10 ^ 90
    have : 2 * 10 ^ 49 < 10 ^ 90 := by decide
    omega

theorem nb_c4 : nB1 ((20 : Nat) : Rat) ((36 : Nat) : Rat) 5 ≤ 2000000 ∧ nB1 ((20 : Nat) : Rat) ((4 * 36 : Nat) : Rat) 4 ≤ 2000000 ∧ nB2 ((20 : Nat) : Rat) ((36 : Nat) : Rat) 5 ≤ 2000000 := by decide +kernel
theorem nb_c3 : ∀ n : Fin 4, nB1 ((20 : Nat) : Rat) ((13638636 : Nat) : Rat) (n.1 + 1) ≤ 20000000000 ∧ nB1 ((20 : Nat) : Rat) ((n.1 * 13638636 : Nat) : Rat) n.1 ≤ 20000000000 ∧ nB2 ((20 : Nat) : Rat) ((13638636 : Nat) : Rat) (n.1 + 1) ≤ 20000000000 := by decide +kernel
theorem in_law {p : List Rat} (hp : In p) (h0 : p ≠ []) : ∃ d g s ls T c, InS p d g s ls T c := by
  obtain ⟨d, g, s, e, A, l, h⟩ := start_in hp h0
  have hsp : 0 < s.length := List.length_pos_iff.2 h.s0
  rcases h.sz with ⟨c1, c2, c3, c4⟩ | ⟨c1, c2, c3, c4⟩
  · obtain ⟨ls, hls⟩ := mk_in (T := 129) (K := 10 ^ 30) (n := 4) (L := 2000000) (c := 1 / 16000000000000000000000000000000000000) h c2 c3 c4 c1 (by rw [h.el, c1]; exact chk_c4) (fun l hl => chk_z4 ⟨l, hl⟩) (by decide) nb_c4.1 nb_c4.2.1 nb_c4.2.2 (by decide +kernel) (by decide +kernel) (by decide +kernel) (by decide +kernel) (by decide) (by decide) (by decide)
    exact ⟨d, g, s, ls, _, _, hls⟩
  · have q := nb_c3 ⟨s.length - 1, by omega⟩
    obtain ⟨ls, hls⟩ := mk_in (T := 155) (K := 10 ^ 34) (n := s.length - 1) (L := 20000000000) (c := 1 / 1600000000000000000000000000000000000000000000) h c2 c3 c4 (by omega) (by
        rw [h.el]
        have := chk_c3 ⟨s.length - 1, by omega⟩
        rw [show s.length - 1 + 1 = s.length by omega] at this
        exact this) (fun l hl => chk_z3 ⟨s.length - 1, by omega⟩ ⟨l, by omega⟩ hl) (by decide) q.1 q.2.1 q.2.2 (by decide +kernel) (by decide +kernel) (by decide +kernel) (by decide +kernel) (by decide) (by decide) (by decide)
    exact ⟨d, g, s, ls, _, _, hls⟩

end Go.Proofs.YtffndcjmabjhiaaGreatDoor
