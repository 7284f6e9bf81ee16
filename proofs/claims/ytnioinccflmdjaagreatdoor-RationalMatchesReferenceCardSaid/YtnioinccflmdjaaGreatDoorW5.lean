/- RationalLimits: its walk. Condition: the tables of strconv; the numbers are ints. -/
import Derived.Test.YtnioinccflmdjaaGreatDoorW4
namespace Go.Proofs.YtnioinccflmdjaaGreatDoor
open Go.RowKit Num
open Go.Shelf

theorem pw_snoc (k : Nat) : pw k ++ ⟨#[48]⟩ = pw (k + 1) := by
  unfold pw
  rw [ByteArray.append_assoc, zr_snoc]
theorem pw_size (k : Nat) : (pw k).size = k + 1 := by
  unfold pw
  rw [ByteArray.size_append, zr_size]; show 1 + k = k + 1; omega
theorem pw_zero : pw 0 = ⟨#[49]⟩ := by unfold pw zr; rfl
def tq (k : Nat) : Rat := (((10 ^ k : Nat) : Int) : Rat)
theorem tq_num (k : Nat) : (tq k).num = ((10 ^ k : Nat) : Int) := rfl
theorem tq_den (k : Nat) : (tq k).den = 1 := rfl
theorem rat_tq {k : Nat} (h : k < 200) : ratO (pw k) ⟨#[49]⟩ = some (tq k) := rat_lit (is_pw h) lit_1
theorem sm_ten {k : Nat} : sm ((10 ^ k : Nat) : Int) ↔ k < 200 := by
  unfold sm
  rw [Int.natAbs_natCast]
  exact Nat.pow_lt_pow_iff_right (by decide)
theorem mul_ten (k l : Nat) : (tq k).num * (tq l).num = ((10 ^ (k + l) : Nat) : Int) := by
  rw [tq_num, tq_num, Nat.pow_add]; simp
theorem oz_fits {k l : Nat} (h : k + l < 200) : op2Q mulQ (some (tq k)) (some (tq l)) = some (tq k * tq l) :=
  fmul_fits ⟨by rw [mul_ten]; exact sm_ten.2 h, by rw [tq_den, tq_den]; decide⟩
theorem oz_over {k l : Nat} (h : ¬ k + l < 200) : op2Q mulQ (some (tq k)) (some (tq l)) = none :=
  if_neg (fun c => h (sm_ten.1 (by rw [← mul_ten]; exact c.1)))
theorem tq_ne (l : Nat) : tq l ≠ 0 := by
  intro h
  have := congrArg Rat.num h
  rw [tq_num] at this
  have h2 := pw_pos l
  rw [this] at h2
  exact absurd h2 (by decide)
/-- The inverse of a power of ten. -/
def iq (l : Nat) : Rat := 1 / tq l
theorem iq_num (l : Nat) : (iq l).num = 1 := by
  have h := quo_divInt 1 (tq l)
  have e1 : (1 : Rat).num = 1 := rfl
  have e2 : ((1 : Rat).den : Int) = 1 := rfl
  rw [tq_num, tq_den, e1, e2] at h
  have k := (red_pos (n := 1) (pw_pos l)).1
  simp only [Int.gcd_one_left] at k
  unfold iq
  rw [h]
  simpa using k.symm
theorem iq_den (l : Nat) : ((iq l).den : Int) = ((10 ^ l : Nat) : Int) := by
  have h := quo_divInt 1 (tq l)
  have e1 : (1 : Rat).num = 1 := rfl
  have e2 : ((1 : Rat).den : Int) = 1 := rfl
  rw [tq_num, tq_den, e1, e2] at h
  have k := (red_pos (n := 1) (pw_pos l)).2
  simp only [Int.gcd_one_left] at k
  unfold iq
  rw [h]
  simpa using k.symm
theorem os_is {l : Nat} (h : l < 200) : op2Q divQ (some 1) (some (tq l)) = some (iq l) :=
  fdiv_fits ⟨by rw [tq_den]; decide, by rw [tq_num]; show sm (1 * _); rw [Int.one_mul]; exact sm_ten.2 h, tq_ne l⟩
theorem iq_fit {l : Nat} (h : l < 200) : fitQ (iq l) := ⟨by rw [iq_num]; decide, by rw [iq_den]; exact sm_ten.2 h⟩
theorem cross_ten (k l : Nat) : (tq k).num * ((iq l).den : Int) = ((10 ^ (k + l) : Nat) : Int) := by
  rw [tq_num, iq_den, Nat.pow_add]; simp
theorem og_fits {k l : Nat} (h : k + l < 200) : op2Q addQ (some (tq k)) (some (iq l)) = some (tq k + iq l) := by
  refine fadd_fits ⟨by rw [cross_ten]; exact sm_ten.2 h, by rw [iq_num, tq_den]; decide, ?_, by rw [tq_den, iq_den]; show sm (1 * _); rw [Int.one_mul]; exact sm_ten.2 (by omega)⟩
  rw [cross_ten, iq_num, tq_den]
  have h1 : 10 ^ (k + l) ≤ 10 ^ 199 := Nat.pow_le_pow_right (by omega) (by omega)
  have h2 : (10 : Nat) ^ 200 = 10 * 10 ^ 199 := rfl
  have h3 : 0 < (10 : Nat) ^ 199 := Nat.pow_pos (by omega)
  unfold sm
  generalize (10 : Nat) ^ (k + l) = a at *
  rw [h2]
  generalize (10 : Nat) ^ 199 = b at *
  omega
theorem og_over {k l : Nat} (h : ¬ k + l < 200) : op2Q addQ (some (tq k)) (some (iq l)) = none :=
  if_neg (fun c => h (sm_ten.1 (by rw [← cross_ten]; exact c.1)))
theorem cmp_ten (k l : Nat) : cmpO (some (tq k)) (some (tq l)) = if k < l then -1 else if l < k then 1 else 0 := by
  show cmpQ (tq k).num (tq k).den (tq l).num (tq l).den = _
  unfold cmpQ
  rw [tq_num, tq_num, tq_den, tq_den]
  have e : ∀ a : Int, a * ((1 : Nat) : Int) = a := fun a => Int.mul_one a
  rw [e, e]
  by_cases h : k < l
  · rw [if_pos h]; exact cmp_lt (by have := Nat.pow_lt_pow_right (a := 10) (by decide) h; omega)
  · rw [if_neg h]
    by_cases h2 : l < k
    · rw [if_pos h2]; exact cmp_gt (by have := Nat.pow_lt_pow_right (a := 10) (by decide) h2; omega)
    · rw [if_neg h2]; obtain rfl : k = l := by omega
      exact cmp_eq rfl
theorem cmp_inv (k l : Nat) : cmpO (some (tq k)) (some (iq l)) = if k = 0 ∧ l = 0 then 0 else 1 := by
  show cmpQ (tq k).num (tq k).den (iq l).num (iq l).den = _
  unfold cmpQ
  rw [cross_ten, iq_num, tq_den]
  by_cases h : k = 0 ∧ l = 0
  · rw [if_pos h, h.1, h.2]; rfl
  · rw [if_neg h]
    have h1 := Nat.pow_lt_pow_right (a := 10) (m := 0) (n := k + l) (by decide) (by omega)
    rw [Nat.pow_zero] at h1
    generalize 10 ^ (k + l) = a at *
    exact cmp_gt (by omega)

set_option maxHeartbeats 8000000 in
set_option maxRecDepth 100000 in
theorem limits_any (n m : Int) (hn0 : -9223372036854775808 ≤ n) (hn1 : n ≤ 9223372036854775807) (hm0 : -9223372036854775808 ≤ m) (hm1 : m ≤ 9223372036854775807) (w : World) (hL : Laid w) :
    Calls Tryz.prog 5 #[.int .i64 n, .int .i64 m] w (RetB w true) := by
  have hB : Below w.heap.size w w := Below.refl _ _
  have hmixed : Tryz.prog.follows .mixedOrders = true := by kernel_rfl
  go_enter Tryz.func5, Tryz.ntmps5
  go_wp2_with (first
    | (go_at_call 11; (with_reducible refine (sane_any _ hL).mono ?_); rintro e v ⟨rfl, hb⟩; replace hL := hL.below hb; replace hB := below_up hB hb; clear hb)
    | (go_at_call 18; (with_reducible refine (pick_any n 200 hn0 hn1 (by decide) (by decide) _).mono ?_); rintro e v' ⟨i, hi0, hi1, rfl, rfl⟩)
    | (go_at_call 18; (with_reducible refine (pick_any m 200 hm0 hm1 (by decide) (by decide) _).mono ?_); rintro e v' ⟨j, hj0, hj1, rfl, rfl⟩))
  obtain ⟨N, rfl⟩ : ∃ N : Nat, i = N := ⟨i.toNat, by omega⟩
  obtain ⟨M, rfl⟩ : ∃ M : Nat, j = M := ⟨j.toNat, by omega⟩
  clear hn0 hn1 hm0 hm1 hi0 hj0
  go_loop [6, 7] (fun a i => ∃ k : Nat, k ≤ N ∧ i = .int .i64 k ∧ a = .string (pw k)) (fun _ i => N - (intOf i).toNat)
  case atStart => exact ⟨0, by omega, rfl, by rw [pw_zero]⟩
  case round =>
    obtain ⟨k, hk, rfl, rfl⟩ := hrel
    have hps : (pw k).size ≤ 1000 := by rw [pw_size]; omega
    by_cases hlt : k < N
    · have PS := Lib.hid (pw_snoc k)
      go_wp2
      go_round
      case rel => exact ⟨k + 1, by omega, by go_num, by rw [← PS.out]⟩
      case measure => simp [intOf]; omega
    obtain rfl : k = N := by omega
    go_wp2
    go_loop [8, 9] (fun a i => ∃ l : Nat, l ≤ M ∧ i = .int .i64 l ∧ a = .string (pw l)) (fun _ i => M - (intOf i).toNat)
    case atStart => exact ⟨0, by omega, rfl, by rw [pw_zero]⟩
    case round =>
      obtain ⟨l, hl, rfl, rfl⟩ := hrel
      have hpt : (pw l).size ≤ 1000 := by rw [pw_size]; omega
      by_cases hlt2 : l < M
      · have PS := Lib.hid (pw_snoc l)
        go_wp2
        go_round
        case rel => exact ⟨l + 1, by omega, by go_num, by rw [← PS.out]⟩
        case measure => simp [intOf]; omega
      obtain rfl : l = M := by omega
      obtain ⟨oz, hoz⟩ : ∃ o, op2Q mulQ (some (tq k)) (some (tq l)) = o := ⟨_, rfl⟩
      obtain ⟨og, hog⟩ : ∃ o, op2Q addQ (some (tq k)) (some (iq l)) = o := ⟨_, rfl⟩
      obtain ⟨os, hos⟩ : ∃ o, some (iq l) = o := ⟨_, rfl⟩
      have hsr : ratO (numT os) (denT os) = some (iq l) := by rw [← hos]; exact rat_of (fit_some (iq_fit (by omega)))
      have hse : errT os = 0 := by rw [← hos]; rfl
      have CZ := Lib.hid (fun w hL => mul_r (rat_tq (k := k) (by omega)) (rat_tq (k := l) (by omega)) hoz w hL)
      have CS := Lib.hid (fun w hL => div_r rat_11 (rat_tq (k := l) (by omega)) ((os_is (by omega)).trans hos) w hL)
      have CG := Lib.hid (fun w hL => add_r (rat_tq (k := k) (by omega)) hsr hog w hL)
      have C1 := Lib.hid (fun w hL => cmp_r (rat_tq (k := k) (by omega)) (rat_tq (k := l) (by omega)) (cmp_ten k l) w hL)
      have C2 := Lib.hid (fun w hL => cmp_r (rat_tq (k := k) (by omega)) hsr (cmp_inv k l) w hL)
      have HZ := Lib.hid hoz
      have HG := Lib.hid hog
      have HS := Lib.hid hse
      clear hoz hog hos hsr hse hlt hlt2
      go_wp2_with (first
          | (go_at_call 24; (with_reducible refine (is_any (pw k) ⟨#[49]⟩ _).mono ?_); rintro e w1 ⟨rfl, hb⟩; have hp := hb; replace hL := hL.below hp; replace hB := below_up hB hp; clear hb hp)
          | (go_at_call 24; (with_reducible refine (is_any (pw l) ⟨#[49]⟩ _).mono ?_); rintro e w2 ⟨rfl, hb⟩; have hp := below_up (below1 w1 (.cells #[.string (pw k), .string ⟨#[49]⟩] 23)) hb; have Bx := (Blk.new w1 23 [.string (pw k), .string ⟨#[49]⟩]).below hb; replace hL := hL.below hp; replace hB := below_up hB hp; clear hb hp; have cx_0 := (Bx.below (below1 w2 (.cells #[.string (pw l), .string ⟨#[49]⟩] 23))).cell 0 (v := .string (pw k)) rfl; have cx_1 := (Bx.below (below1 w2 (.cells #[.string (pw l), .string ⟨#[49]⟩] 23))).cell 1 (v := .string ⟨#[49]⟩) rfl)
          | (go_at_call 25; (with_reducible refine (CZ.out _ (hL.below (below1 w2 (.cells #[.string (pw l), .string ⟨#[49]⟩] 23)))).mono ?_); rintro e w3 ⟨rfl, hb⟩; have hp := below_up (below1 w2 (.cells #[.string (pw l), .string ⟨#[49]⟩] 23)) hb; replace Bx := Bx.below hp; have By := (Blk.new w2 23 [.string (pw l), .string ⟨#[49]⟩]).below hb; clear cx_0 cx_1; replace hL := hL.below hp; replace hB := below_up hB hp; clear hb hp))
      go_cut [14, 15] (fun s14 s15 wx => ∃ g : Nat, BoxOut (w3.alloc (.cells #[.string (numT oz), .string (denT oz)] 23)) g 23 [.string (numT os), .string (denT os)] s14 wx ∧ s15 = .int .i64 (errT os))
      case first =>
        have qy_0 := By.cell 0 (v := .string (pw l)) rfl
        have qy_1 := By.cell 1 (v := .string ⟨#[49]⟩) rfl
        have ey : w3.heap.size + 1 ≠ w2.heap.size := by have := By.lt; omega
        have hZ : Below (w3.alloc (.cells #[.string (numT oz), .string (denT oz)] 23)).heap.size (w3.alloc (.cells #[.string (numT oz), .string (denT oz)] 23)) (w3.alloc (.cells #[.string (numT oz), .string (denT oz)] 23)).drew := (Below.refl _ _).drew
        have hLd := (hL.below (below1 w3 (.cells #[.string (numT oz), .string (denT oz)] 23))).below hZ
        replace Bx := (Bx.below (below1 w3 (.cells #[.string (numT oz), .string (denT oz)] 23))).below hZ
        replace By := (By.below (below1 w3 (.cells #[.string (numT oz), .string (denT oz)] 23))).below hZ
        have Bz := (Blk.new w3 23 [.string (numT oz), .string (denT oz)]).below hZ
        have cy_0 := By.cell 0 (v := .string (pw l)) rfl
        have cy_1 := By.cell 1 (v := .string ⟨#[49]⟩) rfl
        go_region_held3 (fun w' => w'.cell? ⟨w2.heap.size, 0, none⟩ = some (.string (pw l)) ∧ w'.cell? ⟨w2.heap.size, 1, none⟩ = some (.string ⟨#[49]⟩)) (go_keep) (first
            | (go_at_call 24; (refine (is_any ⟨#[49]⟩ ⟨#[49]⟩ _).mono ?_); rintro e wN ⟨rfl, hb⟩; (try (replace BN := BN.below hb)); (try first | (have BN := Blk.below ((Blk.new2 w3 (.cells #[.string (numT oz), .string (denT oz)] 23) 23 [.string ⟨#[]⟩, .string ⟨#[]⟩]).below (Below.refl _ _).drew) hb; have hg : (w3.alloc (.cells #[.string (numT oz), .string (denT oz)] 23)).heap.size ≤ w3.heap.size + 1 := (by simp)) | (have BN := Blk.below (Blk.new _ 23 [.string ⟨#[]⟩, .string ⟨#[]⟩]) hb; have hg := hZ.size; have dy := Nat.ne_of_gt By.lt)); have hZ := (by first | exact below_up hZ hb | exact below_up (below_up hZ (below1 _ _)) hb : Below (w3.alloc (.cells #[.string (numT oz), .string (denT oz)] 23)).heap.size (w3.alloc (.cells #[.string (numT oz), .string (denT oz)] 23)) wN); have hLd := (by first | exact hLd.below hb | exact (hLd.below (below1 _ _)).below hb : Laid wN); have By := (by first | exact By.below hb | exact (By.alloc _).below hb : Blk wN w2.heap.size 23 [.string (pw l), .string ⟨#[49]⟩]); have cy_0 := By.cell 0 (v := .string (pw l)) rfl; have cy_1 := By.cell 1 (v := .string ⟨#[49]⟩) rfl; (try (have n0 := BN.cell 0 (v := .string ⟨#[]⟩) rfl; have m0 := BN.frozen 0; have n1 := BN.cell 1 (v := .string ⟨#[]⟩) rfl; have m1 := BN.frozen 1)))
            | (go_at_call 26; (refine (CS.out _ (by first | exact hLd | exact hLd.below (below1 _ _))).mono ?_); rintro e wN ⟨rfl, hb⟩; (try (replace BN := BN.below hb)); (try first | (have BN := Blk.below ((Blk.new2 w3 (.cells #[.string (numT oz), .string (denT oz)] 23) 23 [.string ⟨#[]⟩, .string ⟨#[]⟩]).below (Below.refl _ _).drew) hb; have hg : (w3.alloc (.cells #[.string (numT oz), .string (denT oz)] 23)).heap.size ≤ w3.heap.size + 1 := (by simp)) | (have BN := Blk.below (Blk.new _ 23 [.string ⟨#[]⟩, .string ⟨#[]⟩]) hb; have hg := hZ.size; have dy := Nat.ne_of_gt By.lt)); have hZ := (by first | exact below_up hZ hb | exact below_up (below_up hZ (below1 _ _)) hb : Below (w3.alloc (.cells #[.string (numT oz), .string (denT oz)] 23)).heap.size (w3.alloc (.cells #[.string (numT oz), .string (denT oz)] 23)) wN); have hLd := (by first | exact hLd.below hb | exact (hLd.below (below1 _ _)).below hb : Laid wN); have By := (by first | exact By.below hb | exact (By.alloc _).below hb : Blk wN w2.heap.size 23 [.string (pw l), .string ⟨#[49]⟩]); have cy_0 := By.cell 0 (v := .string (pw l)) rfl; have cy_1 := By.cell 1 (v := .string ⟨#[49]⟩) rfl; (try (have n0 := BN.cell 0 (v := .string ⟨#[]⟩) rfl; have m0 := BN.frozen 0; have n1 := BN.cell 1 (v := .string ⟨#[]⟩) rfl; have m1 := BN.frozen 1))))
        all_goals go_wp2_with fail
        all_goals go_meet
        all_goals first
            | exact ⟨_, ⟨rfl, ((BN.set 0 (.string (numT os))).set 1 (.string (denT os))), ((hZ.setCell hg (.string (numT os))).setCell hg (.string (denT os)))⟩, rfl⟩
            | exact ⟨_, ⟨rfl, Blk.new _ 23 [.string (numT os), .string (denT os)], below_up hZ (below1 _ _)⟩, rfl⟩
      case rest =>
        obtain ⟨w4, hnw⟩ : ∃ x, x = wc := ⟨_, rfl⟩
        subst hnw
        obtain ⟨gs, ⟨rfl, Bs, hp⟩, rfl⟩ := hcut
        have hq := below_up (below1 w3 (.cells #[.string (numT oz), .string (denT oz)] 23)) hp
        replace Bx := Bx.below hq
        replace By := By.below hq
        have Bz := (Blk.new w3 23 [.string (numT oz), .string (denT oz)]).below hp
        replace hL := hL.below hq; replace hB := below_up hB hq; clear hp hq
        have cx_0 := Bx.cell 0 (v := .string (pw k)) rfl
        have cx_1 := Bx.cell 1 (v := .string ⟨#[49]⟩) rfl
        have cs_0 := Bs.cell 0 (v := .string (numT os)) rfl
        have cs_1 := Bs.cell 1 (v := .string (denT os)) rfl
        go_upto_region 19 with (first
            | (go_at_call 27; (with_reducible refine (CG.out _ hL).mono ?_); rintro e w5 ⟨rfl, hb⟩; have hp := hb; replace Bx := Bx.below hp; replace By := By.below hp; replace Bz := Bz.below hp; replace Bs := Bs.below hp; clear cx_0 cx_1 cs_0 cs_1; replace hL := hL.below hp; replace hB := below_up hB hp; clear hb hp; have cx_0 := (Bx.below (below1 w5 (.cells #[.string (numT og), .string (denT og)] 23))).cell 0 (v := .string (pw k)) rfl; have cx_1 := (Bx.below (below1 w5 (.cells #[.string (numT og), .string (denT og)] 23))).cell 1 (v := .string ⟨#[49]⟩) rfl; have cy_0 := (By.below (below1 w5 (.cells #[.string (numT og), .string (denT og)] 23))).cell 0 (v := .string (pw l)) rfl; have cy_1 := (By.below (below1 w5 (.cells #[.string (numT og), .string (denT og)] 23))).cell 1 (v := .string ⟨#[49]⟩) rfl; have cz_0 := (Bz.below (below1 w5 (.cells #[.string (numT og), .string (denT og)] 23))).cell 0 (v := .string (numT oz)) rfl; have cz_1 := (Bz.below (below1 w5 (.cells #[.string (numT og), .string (denT og)] 23))).cell 1 (v := .string (denT oz)) rfl; have cs_0 := (Bs.below (below1 w5 (.cells #[.string (numT og), .string (denT og)] 23))).cell 0 (v := .string (numT os)) rfl; have cs_1 := (Bs.below (below1 w5 (.cells #[.string (numT og), .string (denT og)] 23))).cell 1 (v := .string (denT os)) rfl))

        by_cases hf : k + l < 200
        · have hf1 : decide ((k : Int) + l + 1 ≤ 200) = true := decide_eq_true (by omega)
          obtain ⟨hz, hgz⟩ : errT oz = 0 ∧ errT og = 0 := by rw [← HZ.out, ← HG.out, oz_fits hf, og_fits hf]; exact ⟨rfl, rfl⟩
          have hse := HS.out
          by_cases h1 : k < l
          · by_cases h3 : k = 0
            · subst h3
              rw [if_pos h1] at C1
              rw [if_neg (by omega)] at C2
              have h1d : (0 : Int) < l := by omega
              have h1e : ((l : Int) == 0) = false := by simp; omega
              clear HZ HG HS h1
              go_wp2_with (first
                  | (go_at_call 23; (with_reducible refine (C1.out _ (hL.below (below1 _ _))).mono ?_); rintro e wa ⟨rfl, hb⟩; have ka0 := (hb.cell (cell_lt cx_0)).trans cx_0; have ka1 := (hb.cell (cell_lt cx_1)).trans cx_1; have ks0 := (hb.cell (cell_lt cs_0)).trans cs_0; have ks1 := (hb.cell (cell_lt cs_1)).trans cs_1; have hB2 := below_up (below_up hB (below1 _ _)) hb)
                  | (go_at_call 23; (with_reducible refine (C2.out _ ((hL.below (below1 _ _)).below hb)).mono ?_); rintro e wb ⟨rfl, hb3⟩))
              all_goals go_ret
              all_goals exact ⟨rfl, below_up hB2 hb3⟩
            · rw [if_pos h1] at C1
              rw [if_neg (by omega)] at C2
              have h1d : (k : Int) < l := by omega
              have h1e : ((k : Int) == 0) = false := by simp; omega
              clear HZ HG HS h1 h3
              go_wp2_with (first
                  | (go_at_call 23; (with_reducible refine (C1.out _ (hL.below (below1 _ _))).mono ?_); rintro e wa ⟨rfl, hb⟩; have ka0 := (hb.cell (cell_lt cx_0)).trans cx_0; have ka1 := (hb.cell (cell_lt cx_1)).trans cx_1; have ks0 := (hb.cell (cell_lt cs_0)).trans cs_0; have ks1 := (hb.cell (cell_lt cs_1)).trans cs_1; have hB2 := below_up (below_up hB (below1 _ _)) hb)
                  | (go_at_call 23; (with_reducible refine (C2.out _ ((hL.below (below1 _ _)).below hb)).mono ?_); rintro e wb ⟨rfl, hb3⟩))
              all_goals go_ret
              all_goals exact ⟨rfl, below_up hB2 hb3⟩
          · by_cases h2 : l < k
            · rw [if_neg h1, if_pos h2] at C1
              rw [if_neg (by omega)] at C2
              have h1d : (l : Int) < k := by omega
              have h1e : ((k : Int) == 0) = false := by simp; omega
              clear HZ HG HS h1 h2
              go_wp2_with (first
                  | (go_at_call 23; (with_reducible refine (C1.out _ (hL.below (below1 _ _))).mono ?_); rintro e wa ⟨rfl, hb⟩; have ka0 := (hb.cell (cell_lt cx_0)).trans cx_0; have ka1 := (hb.cell (cell_lt cx_1)).trans cx_1; have ks0 := (hb.cell (cell_lt cs_0)).trans cs_0; have ks1 := (hb.cell (cell_lt cs_1)).trans cs_1; have hB2 := below_up (below_up hB (below1 _ _)) hb)
                  | (go_at_call 23; (with_reducible refine (C2.out _ ((hL.below (below1 _ _)).below hb)).mono ?_); rintro e wb ⟨rfl, hb3⟩))
              all_goals go_ret
              all_goals exact ⟨rfl, below_up hB2 hb3⟩
            · obtain rfl : k = l := by omega
              by_cases h3 : k = 0
              · subst h3
                rw [if_neg (by omega), if_neg (by omega)] at C1
                rw [if_pos ⟨rfl, rfl⟩] at C2
                clear HZ HG HS h1 h2
                go_wp2_with (first
                    | (go_at_call 23; (with_reducible refine (C1.out _ (hL.below (below1 _ _))).mono ?_); rintro e wa ⟨rfl, hb⟩; have ka0 := (hb.cell (cell_lt cx_0)).trans cx_0; have ka1 := (hb.cell (cell_lt cx_1)).trans cx_1; have ks0 := (hb.cell (cell_lt cs_0)).trans cs_0; have ks1 := (hb.cell (cell_lt cs_1)).trans cs_1; have hB2 := below_up (below_up hB (below1 _ _)) hb)
                    | (go_at_call 23; (with_reducible refine (C2.out _ ((hL.below (below1 _ _)).below hb)).mono ?_); rintro e wb ⟨rfl, hb3⟩))
                all_goals go_ret
                all_goals exact ⟨rfl, below_up hB2 hb3⟩
              · rw [if_neg h1, if_neg h2] at C1
                rw [if_neg (by omega)] at C2
                have h1e : ((k : Int) == 0) = false := by simp; omega
                clear HZ HG HS h1 h2
                go_wp2_with (first
                    | (go_at_call 23; (with_reducible refine (C1.out _ (hL.below (below1 _ _))).mono ?_); rintro e wa ⟨rfl, hb⟩; have ka0 := (hb.cell (cell_lt cx_0)).trans cx_0; have ka1 := (hb.cell (cell_lt cx_1)).trans cx_1; have ks0 := (hb.cell (cell_lt cs_0)).trans cs_0; have ks1 := (hb.cell (cell_lt cs_1)).trans cs_1; have hB2 := below_up (below_up hB (below1 _ _)) hb)
                    | (go_at_call 23; (with_reducible refine (C2.out _ ((hL.below (below1 _ _)).below hb)).mono ?_); rintro e wb ⟨rfl, hb3⟩))
                all_goals go_ret
                all_goals exact ⟨rfl, below_up hB2 hb3⟩
        · have hf1 : decide ((k : Int) + l + 1 ≤ 200) = false := decide_eq_false (by omega)
          obtain ⟨rfl, rfl⟩ : oz = none ∧ og = none := by rw [← HZ.out, ← HG.out, oz_over hf, og_over hf]; exact ⟨rfl, rfl⟩
          have hz : errT none = 40 := rfl
          have hzn : numT none = ⟨#[]⟩ := rfl
          have hzd : denT none = ⟨#[]⟩ := rfl
          simp only [hzn, hzd] at cx_0 cx_1 cy_0 cy_1 cs_0 cs_1 cz_0 cz_1
          have hse := HS.out
          by_cases h1 : k < l
          · have h3 : ¬ k = 0 := by omega
            rw [if_pos h1] at C1
            rw [if_neg (by omega)] at C2
            have h1d : (k : Int) < l := by omega
            have h1e : ((k : Int) == 0) = false := by simp; omega
            clear HZ HG HS h1 h3
            go_wp2_with (first
                | (go_at_call 23; (with_reducible refine (C1.out _ (hL.below (below1 _ _))).mono ?_); rintro e wa ⟨rfl, hb⟩; have ka0 := (hb.cell (cell_lt cx_0)).trans cx_0; have ka1 := (hb.cell (cell_lt cx_1)).trans cx_1; have ks0 := (hb.cell (cell_lt cs_0)).trans cs_0; have ks1 := (hb.cell (cell_lt cs_1)).trans cs_1; have hB2 := below_up (below_up hB (below1 _ _)) hb)
                | (go_at_call 23; (with_reducible refine (C2.out _ ((hL.below (below1 _ _)).below hb)).mono ?_); rintro e wb ⟨rfl, hb3⟩))
            all_goals go_ret
            all_goals exact ⟨rfl, below_up hB2 hb3⟩
          · by_cases h2 : l < k
            · rw [if_neg h1, if_pos h2] at C1
              rw [if_neg (by omega)] at C2
              have h1d : (l : Int) < k := by omega
              have h1e : ((k : Int) == 0) = false := by simp; omega
              clear HZ HG HS h1 h2
              go_wp2_with (first
                  | (go_at_call 23; (with_reducible refine (C1.out _ (hL.below (below1 _ _))).mono ?_); rintro e wa ⟨rfl, hb⟩; have ka0 := (hb.cell (cell_lt cx_0)).trans cx_0; have ka1 := (hb.cell (cell_lt cx_1)).trans cx_1; have ks0 := (hb.cell (cell_lt cs_0)).trans cs_0; have ks1 := (hb.cell (cell_lt cs_1)).trans cs_1; have hB2 := below_up (below_up hB (below1 _ _)) hb)
                  | (go_at_call 23; (with_reducible refine (C2.out _ ((hL.below (below1 _ _)).below hb)).mono ?_); rintro e wb ⟨rfl, hb3⟩))
              all_goals go_ret
              all_goals exact ⟨rfl, below_up hB2 hb3⟩
            · obtain rfl : k = l := by omega
              have h3 : ¬ k = 0 := by omega
              rw [if_neg h1, if_neg h2] at C1
              rw [if_neg (by omega)] at C2
              have h1e : ((k : Int) == 0) = false := by simp; omega
              clear HZ HG HS h1 h2
              go_wp2_with (first
                  | (go_at_call 23; (with_reducible refine (C1.out _ (hL.below (below1 _ _))).mono ?_); rintro e wa ⟨rfl, hb⟩; have ka0 := (hb.cell (cell_lt cx_0)).trans cx_0; have ka1 := (hb.cell (cell_lt cx_1)).trans cx_1; have ks0 := (hb.cell (cell_lt cs_0)).trans cs_0; have ks1 := (hb.cell (cell_lt cs_1)).trans cs_1; have hB2 := below_up (below_up hB (below1 _ _)) hb)
                  | (go_at_call 23; (with_reducible refine (C2.out _ ((hL.below (below1 _ _)).below hb)).mono ?_); rintro e wb ⟨rfl, hb3⟩))
              all_goals go_ret
              all_goals exact ⟨rfl, below_up hB2 hb3⟩


end Go.Proofs.YtnioinccflmdjaaGreatDoor
