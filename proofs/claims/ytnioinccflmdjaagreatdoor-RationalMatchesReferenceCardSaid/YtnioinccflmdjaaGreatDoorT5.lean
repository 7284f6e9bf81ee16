/- workpieceref04: power, grid, Down, Up. Conditions: sizes. -/
import Derived.Test.YtnioinccflmdjaaGreatDoorT4
import Derived.Test.YtnioinccflmdjaaGreatDoorW5
namespace Go.Proofs.YtnioinccflmdjaaGreatDoor
open Go.RowKit Num
open Go.Shelf

set_option maxRecDepth 100000 in
theorem power_any (N : Nat) (hN : N ≤ 1000) (w : World) : Calls Tryz.prog 97 #[.int .i64 N] w fun e w' => e = .returned (.string (pw N)) ∧ w = w' := by
  go_enter Tryz.func97, Tryz.ntmps97
  go_wp2
  go_loop [3, 4] (fun a i => ∃ k : Nat, k ≤ N ∧ i = .int .i64 k ∧ a = .string (pw k)) (fun _ i => N - (intOf i).toNat)
  case atStart => exact ⟨0, by omega, rfl, by rw [pw_zero]⟩
  case round =>
    obtain ⟨k, hk, rfl, rfl⟩ := hrel
    have hps : (pw k).size ≤ 1001 := by rw [pw_size]; omega
    by_cases hlt : k < N
    · have PS := Lib.hid (pw_snoc k)
      go_wp2
      go_round
      case rel => exact ⟨k + 1, by omega, by go_num, by rw [← PS.out]⟩
      case measure => simp [intOf]; omega
    obtain rfl : k = N := by omega
    go_wp2
    go_ret
    exact ⟨rfl, rfl⟩

set_option maxHeartbeats 4000000 in
set_option maxRecDepth 100000 in
theorem grid_bad (x y : ByteArray) (hx : x.size ≤ 9223372036854775807) (hy : y.size ≤ 9223372036854775807) (n : Int) (h : okR x y = false ∨ n < 0 ∨ 30 < n) (w : World) :
    Calls Tryz.prog 70 #[.agg #[.string x, .string y], .int .i64 n] w (RetC w ⟨#[]⟩ ⟨#[]⟩ ⟨#[]⟩ false) := by
  have VA := Lib.hid (fun w => tvalid_any x y hx hy w)
  have hB : Below w.heap.size w w := Below.refl _ _
  clear hx hy
  cases hv : okR x y with
  | false =>
    rw [hv] at VA
    clear h hv
    go_enter Tryz.func70, Tryz.ntmps70
    go_wp2_with (first
        | (go_at_call 40; (with_reducible refine (VA.out _).mono ?_); rintro e w1 ⟨rfl, hb⟩; have hp := below_up (below1 w (.cells #[.string x, .string y] 23)) hb; have Ba := (Blk.new w 23 [.string x, .string y]).below hb; replace hB := below_up hB hp; clear hb hp; have ca_0 := Ba.cell 0 (v := .string x) rfl; have ca_1 := Ba.cell 1 (v := .string y) rfl))
    all_goals refine bodyPost_ret (v := .tuple #[.string ⟨#[]⟩, .string ⟨#[]⟩, .string ⟨#[]⟩, .bool false]) (by simp [results, Tryz.results70, go_sem]) rfl ⟨rfl, hB⟩
  | true =>
    rw [hv] at h VA
    have h : n < 0 ∨ 30 < n := h.resolve_left (by decide)
    clear hv
    by_cases h1 : n < 0
    · clear h
      go_enter Tryz.func70, Tryz.ntmps70
      go_wp2_with (first
          | (go_at_call 40; (with_reducible refine (VA.out _).mono ?_); rintro e w1 ⟨rfl, hb⟩; have hp := below_up (below1 w (.cells #[.string x, .string y] 23)) hb; have Ba := (Blk.new w 23 [.string x, .string y]).below hb; replace hB := below_up hB hp; clear hb hp; have ca_0 := Ba.cell 0 (v := .string x) rfl; have ca_1 := Ba.cell 1 (v := .string y) rfl))
      all_goals refine bodyPost_ret (v := .tuple #[.string ⟨#[]⟩, .string ⟨#[]⟩, .string ⟨#[]⟩, .bool false]) (by simp [results, Tryz.results70, go_sem]) rfl ⟨rfl, hB⟩
    · have h2 : 30 < n := h.resolve_left h1
      have h3 : decide (n < 0) = false := decide_eq_false h1
      clear h
      go_enter Tryz.func70, Tryz.ntmps70
      go_wp2_with (first
          | (go_at_call 40; (with_reducible refine (VA.out _).mono ?_); rintro e w1 ⟨rfl, hb⟩; have hp := below_up (below1 w (.cells #[.string x, .string y] 23)) hb; have Ba := (Blk.new w 23 [.string x, .string y]).below hb; replace hB := below_up hB hp; clear hb hp; have ca_0 := Ba.cell 0 (v := .string x) rfl; have ca_1 := Ba.cell 1 (v := .string y) rfl))
      all_goals refine bodyPost_ret (v := .tuple #[.string ⟨#[]⟩, .string ⟨#[]⟩, .string ⟨#[]⟩, .bool false]) (by simp [results, Tryz.results70, go_sem]) rfl ⟨rfl, hB⟩

set_option maxHeartbeats 4000000 in
set_option maxRecDepth 100000 in
theorem grid_over (x y : ByteArray) (p : Rat) (hp : Fr x y p) (k : Nat) (hk : k ≤ 30) (h : ¬ sm (gridZ k p)) (w : World) :
    Calls Tryz.prog 70 #[.agg #[.string x, .string y], .int .i64 k] w (RetC w ⟨#[]⟩ ⟨#[]⟩ ⟨#[]⟩ false) := by
  have VA := Lib.hid (fun w => tvalid_any x y (by have := hp.1.size; omega) (by have := hp.2.size; omega) w)
  rw [hp.ok] at VA
  have PW := Lib.hid (fun w => power_any k (by omega) w)
  have M1 := Lib.hid (fun w => rmul_over hp.1 (is_pw (k := k) (by omega)) h w)
  have hB : Below w.heap.size w w := Below.refl _ _
  have hk1 : (k : Int) ≤ 30 := by omega
  have hd0 : decide ((k : Int) < 0) = false := decide_eq_false (by omega)
  have hd1 : decide ((30 : Int) < k) = false := decide_eq_false (by omega)
  generalize pw k = t at *
  clear hp h hk
  go_enter Tryz.func70, Tryz.ntmps70
  go_wp2_with (first
      | (go_at_call 40; (with_reducible refine (VA.out _).mono ?_); rintro e w1 ⟨rfl, hb⟩; have hp := below_up (below1 w (.cells #[.string x, .string y] 23)) hb; have Ba := (Blk.new w 23 [.string x, .string y]).below hb; replace hB := below_up hB hp; clear hb hp; have ca_0 := Ba.cell 0 (v := .string x) rfl; have ca_1 := Ba.cell 1 (v := .string y) rfl)
      | (go_at_call 97; (with_reducible refine (PW.out _).mono ?_); rintro e v' ⟨rfl, rfl⟩)
      | (go_at_call 21; (with_reducible refine (M1.out _).mono ?_); rintro e w2 ⟨rfl, hb⟩; have hp := hb; replace Ba := Ba.below hp; clear ca_0 ca_1; replace hB := below_up hB hp; clear hb hp; have ca_0 := Ba.cell 0 (v := .string x) rfl; have ca_1 := Ba.cell 1 (v := .string y) rfl))
  all_goals refine bodyPost_ret (v := .tuple #[.string ⟨#[]⟩, .string ⟨#[]⟩, .string ⟨#[]⟩, .bool false]) (by simp [results, Tryz.results70, go_sem]) rfl ⟨rfl, hB⟩

set_option maxHeartbeats 4000000 in
set_option maxRecDepth 100000 in
theorem grid_good (x y : ByteArray) (p : Rat) (hp : Fr x y p) (k : Nat) (hk : k ≤ 30) (h : sm (gridZ k p)) (Q R : ByteArray) (hQ : Is Q (gridZ k p / p.den)) (hR : Is R (gridZ k p % p.den)) (w : World) :
    Calls Tryz.prog 70 #[.agg #[.string x, .string y], .int .i64 k] w (RetC w Q R (pw k) true) := by
  have VA := Lib.hid (fun w => tvalid_any x y (by have := hp.1.size; omega) (by have := hp.2.size; omega) w)
  rw [hp.ok] at VA
  have PW := Lib.hid (fun w => power_any k (by omega) w)
  obtain ⟨N, hN⟩ := Is.ex h
  have M1 := Lib.hid (fun w => rmul_is hp.1 (is_pw (k := k) (by omega)) hN rfl w)
  have D1 := Lib.hid (fun w => rdiv_is hN hp.2 (den_ne p) hQ hR rfl rfl w)
  have hB : Below w.heap.size w w := Below.refl _ _
  have hk1 : (k : Int) ≤ 30 := by omega
  have hd0 : decide ((k : Int) < 0) = false := decide_eq_false (by omega)
  have hd1 : decide ((30 : Int) < k) = false := decide_eq_false (by omega)
  generalize pw k = t at *
  clear hp h hk hN hQ hR
  go_enter Tryz.func70, Tryz.ntmps70
  go_wp2_with (first
      | (go_at_call 40; (with_reducible refine (VA.out _).mono ?_); rintro e w1 ⟨rfl, hb⟩; have hp := below_up (below1 w (.cells #[.string x, .string y] 23)) hb; have Ba := (Blk.new w 23 [.string x, .string y]).below hb; replace hB := below_up hB hp; clear hb hp; have ca_0 := Ba.cell 0 (v := .string x) rfl; have ca_1 := Ba.cell 1 (v := .string y) rfl)
      | (go_at_call 97; (with_reducible refine (PW.out _).mono ?_); rintro e v' ⟨rfl, rfl⟩)
      | (go_at_call 21; (with_reducible refine (M1.out _).mono ?_); rintro e w2 ⟨rfl, hb⟩; have hp := hb; replace Ba := Ba.below hp; clear ca_0 ca_1; replace hB := below_up hB hp; clear hb hp; have ca_0 := Ba.cell 0 (v := .string x) rfl; have ca_1 := Ba.cell 1 (v := .string y) rfl)
      | (go_at_call 66; (with_reducible refine (D1.out _).mono ?_); rintro e w3 ⟨rfl, hb⟩; have hp := hb; replace Ba := Ba.below hp; clear ca_0 ca_1; replace hB := below_up hB hp; clear hb hp))
  all_goals refine bodyPost_ret (v := .tuple #[.string Q, .string R, .string t, .bool true]) (by simp [results, Tryz.results70, go_sem]) rfl ⟨rfl, hB⟩

set_option maxHeartbeats 4000000 in
set_option maxRecDepth 100000 in
theorem tdown_any (x y : ByteArray) (hx : x.size ≤ 9223372036854775807) (hy : y.size ≤ 9223372036854775807) (n : Int) (w : World) :
    Calls Tryz.prog 36 #[.agg #[.string x, .string y], .int .i64 n] w (RetQ w ((ratO x y).bind (roundQ false n))) := by
  have hB : Below w.heap.size w w := Below.refl _ _
  obtain ⟨o, ho⟩ : ∃ o, (ratO x y).bind (roundQ false n) = o := ⟨_, rfl⟩
  rw [ho]
  by_cases hbad : okR x y = false ∨ n < 0 ∨ 30 < n
  · have CG := Lib.hid (fun w => grid_bad x y hx hy n hbad w)
    obtain rfl : o = none := by
      rw [← ho]
      rcases hbad with h | h
      · rw [ratO_none.2 h]; rfl
      · cases ratO x y with
        | none => rfl
        | some p => exact if_neg (fun c => by have := c.1; have := c.2.1; omega)
    clear hx hy hbad ho
    go_enter Tryz.func36, Tryz.ntmps36
    go_wp2_with (first
        | (go_at_call 70; (with_reducible refine (CG.out _).mono ?_); rintro e w1 ⟨rfl, hb⟩; have hp := below_up (below_up (below1 w (.cells #[.string x, .string y] 23)) (below1 ((w.alloc (.cells #[.string x, .string y] 23))) (.cells #[.string ⟨#[]⟩, .string ⟨#[]⟩] 23))) hb; have Ba := ((Blk.new w 23 [.string x, .string y]).alloc _).below hb; have Bz := (Blk.new2 w (.cells #[.string x, .string y] 23) 23 [.string ⟨#[]⟩, .string ⟨#[]⟩]).below hb; replace hB := below_up hB hp; clear hb hp; have cz_0 := Bz.cell 0 (v := .string ⟨#[]⟩) rfl; have cz_1 := Bz.cell 1 (v := .string ⟨#[]⟩) rfl; have f0 := Bz.frozen 0; have f1 := Bz.frozen 1))
    have ZF := (Bz.set 0 (.string ⟨#[]⟩)).set 1 (.string ⟨#[]⟩)
    have e0 := ZF.cell 0 (v := .string ⟨#[]⟩) rfl
    have e1 := ZF.cell 1 (v := .string ⟨#[]⟩) rfl
    refine bodyPost_ret (v := .tuple #[.agg #[.string ⟨#[]⟩, .string ⟨#[]⟩], .int .i64 40]) (by simp [results, Tryz.results36, go_sem, e0, e1]) rfl ⟨rfl, (hB.setCell (by dsimp; omega) _).setCell (by dsimp; omega) _⟩
  · obtain ⟨p, hp⟩ : ∃ p, ratO x y = some p := by
      cases h : ratO x y with
      | none => exact absurd (.inl (ratO_none.1 h)) hbad
      | some p => exact ⟨p, rfl⟩
    have hn0 : 0 ≤ n := by
      by_cases h : n < 0
      · exact absurd (.inr (.inl h)) hbad
      · omega
    have hn1 : n ≤ 30 := by
      by_cases h : 30 < n
      · exact absurd (.inr (.inr h)) hbad
      · omega
    obtain ⟨k, rfl⟩ : ∃ k : Nat, n = k := ⟨n.toNat, by omega⟩
    have hk : k ≤ 30 := by omega
    have fp := ratO_some.1 hp
    rw [hp] at ho
    have ho : roundQ false (k : Int) p = o := ho
    unfold roundQ at ho
    rw [Int.toNat_natCast] at ho
    by_cases hs : sm (gridZ k p)
    · rw [if_pos ⟨hn0, hn1, hs⟩] at ho
      obtain ⟨s1, s2, s3⟩ := round_small fp.2.small hs
      obtain ⟨Q, hQ⟩ := Is.ex s1
      obtain ⟨R, hR⟩ := Is.ex s2
      have CG := Lib.hid (fun w => grid_good x y p fp k hk hs Q R hQ hR w)
      have hT := is_pw (k := k) (by omega)
      have hpw := pw_pos k
      have MK := Lib.hid (fun w => tmake_is hQ hT ((if_neg (by omega)).trans ho : makeQ (gridZ k p / p.den) ((10 ^ k : Nat) : Int) = o) w)
      generalize pw k = t at *
      clear hx hy hbad hp fp ho hs s1 s2 s3 hQ hR hT hpw hn0 hn1 hk
      go_enter Tryz.func36, Tryz.ntmps36
      go_wp2_with (first
          | (go_at_call 70; (with_reducible refine (CG.out _).mono ?_); rintro e w1 ⟨rfl, hb⟩; have hp := below_up (below_up (below1 w (.cells #[.string x, .string y] 23)) (below1 ((w.alloc (.cells #[.string x, .string y] 23))) (.cells #[.string ⟨#[]⟩, .string ⟨#[]⟩] 23))) hb; have Ba := ((Blk.new w 23 [.string x, .string y]).alloc _).below hb; have Bz := (Blk.new2 w (.cells #[.string x, .string y] 23) 23 [.string ⟨#[]⟩, .string ⟨#[]⟩]).below hb; replace hB := below_up hB hp; clear hb hp)
          | (go_at_call 39; (with_reducible refine (MK.out _).mono ?_); rintro e w2 ⟨rfl, hb⟩; have hp := hb; replace Ba := Ba.below hp; replace Bz := Bz.below hp; replace hB := below_up hB hp; clear hb hp; have cz_0 := Bz.cell 0 (v := .string ⟨#[]⟩) rfl; have cz_1 := Bz.cell 1 (v := .string ⟨#[]⟩) rfl; have f0 := Bz.frozen 0; have f1 := Bz.frozen 1))
      have ZF := (Bz.set 0 (.string (numT o))).set 1 (.string (denT o))
      have e0 := ZF.cell 0 (v := .string (numT o)) rfl
      have e1 := ZF.cell 1 (v := .string (denT o)) rfl
      refine bodyPost_ret (v := .tuple #[.agg #[.string (numT o), .string (denT o)], .int .i64 (errT o)]) (by simp [results, Tryz.results36, go_sem, e0, e1]) rfl ⟨rfl, (hB.setCell (by dsimp; omega) _).setCell (by dsimp; omega) _⟩
    · rw [if_neg (fun h => hs h.2.2)] at ho
      subst ho
      have CG := Lib.hid (fun w => grid_over x y p fp k hk hs w)
      clear hx hy hbad hp fp hs hn0 hn1 hk
      go_enter Tryz.func36, Tryz.ntmps36
      go_wp2_with (first
          | (go_at_call 70; (with_reducible refine (CG.out _).mono ?_); rintro e w1 ⟨rfl, hb⟩; have hp := below_up (below_up (below1 w (.cells #[.string x, .string y] 23)) (below1 ((w.alloc (.cells #[.string x, .string y] 23))) (.cells #[.string ⟨#[]⟩, .string ⟨#[]⟩] 23))) hb; have Ba := ((Blk.new w 23 [.string x, .string y]).alloc _).below hb; have Bz := (Blk.new2 w (.cells #[.string x, .string y] 23) 23 [.string ⟨#[]⟩, .string ⟨#[]⟩]).below hb; replace hB := below_up hB hp; clear hb hp; have cz_0 := Bz.cell 0 (v := .string ⟨#[]⟩) rfl; have cz_1 := Bz.cell 1 (v := .string ⟨#[]⟩) rfl; have f0 := Bz.frozen 0; have f1 := Bz.frozen 1))
      have ZF := (Bz.set 0 (.string ⟨#[]⟩)).set 1 (.string ⟨#[]⟩)
      have e0 := ZF.cell 0 (v := .string ⟨#[]⟩) rfl
      have e1 := ZF.cell 1 (v := .string ⟨#[]⟩) rfl
      refine bodyPost_ret (v := .tuple #[.agg #[.string ⟨#[]⟩, .string ⟨#[]⟩], .int .i64 40]) (by simp [results, Tryz.results36, go_sem, e0, e1]) rfl ⟨rfl, (hB.setCell (by dsimp; omega) _).setCell (by dsimp; omega) _⟩

set_option maxHeartbeats 4000000 in
set_option maxRecDepth 100000 in
theorem tup_any (x y : ByteArray) (hx : x.size ≤ 9223372036854775807) (hy : y.size ≤ 9223372036854775807) (n : Int) (w : World) :
    Calls Tryz.prog 38 #[.agg #[.string x, .string y], .int .i64 n] w (RetQ w ((ratO x y).bind (roundQ true n))) := by
  have hB : Below w.heap.size w w := Below.refl _ _
  obtain ⟨o, ho⟩ : ∃ o, (ratO x y).bind (roundQ true n) = o := ⟨_, rfl⟩
  rw [ho]
  by_cases hbad : okR x y = false ∨ n < 0 ∨ 30 < n
  · have CG := Lib.hid (fun w => grid_bad x y hx hy n hbad w)
    obtain rfl : o = none := by
      rw [← ho]
      rcases hbad with h | h
      · rw [ratO_none.2 h]; rfl
      · cases ratO x y with
        | none => rfl
        | some p => exact if_neg (fun c => by have := c.1; have := c.2.1; omega)
    clear hx hy hbad ho
    go_enter Tryz.func38, Tryz.ntmps38
    go_wp2_with (first
        | (go_at_call 70; (with_reducible refine (CG.out _).mono ?_); rintro e w1 ⟨rfl, hb⟩; have hp := below_up (below_up (below1 w (.cells #[.string x, .string y] 23)) (below1 ((w.alloc (.cells #[.string x, .string y] 23))) (.cells #[.string ⟨#[]⟩, .string ⟨#[]⟩] 23))) hb; have Ba := ((Blk.new w 23 [.string x, .string y]).alloc _).below hb; have Bz := (Blk.new2 w (.cells #[.string x, .string y] 23) 23 [.string ⟨#[]⟩, .string ⟨#[]⟩]).below hb; replace hB := below_up hB hp; clear hb hp; have cz_0 := Bz.cell 0 (v := .string ⟨#[]⟩) rfl; have cz_1 := Bz.cell 1 (v := .string ⟨#[]⟩) rfl; have f0 := Bz.frozen 0; have f1 := Bz.frozen 1))
    have ZF := (Bz.set 0 (.string ⟨#[]⟩)).set 1 (.string ⟨#[]⟩)
    have e0 := ZF.cell 0 (v := .string ⟨#[]⟩) rfl
    have e1 := ZF.cell 1 (v := .string ⟨#[]⟩) rfl
    refine bodyPost_ret (v := .tuple #[.agg #[.string ⟨#[]⟩, .string ⟨#[]⟩], .int .i64 40]) (by simp [results, Tryz.results38, go_sem, e0, e1]) rfl ⟨rfl, (hB.setCell (by dsimp; omega) _).setCell (by dsimp; omega) _⟩
  · obtain ⟨p, hp⟩ : ∃ p, ratO x y = some p := by
      cases h : ratO x y with
      | none => exact absurd (.inl (ratO_none.1 h)) hbad
      | some p => exact ⟨p, rfl⟩
    have hn0 : 0 ≤ n := by
      by_cases h : n < 0
      · exact absurd (.inr (.inl h)) hbad
      · omega
    have hn1 : n ≤ 30 := by
      by_cases h : 30 < n
      · exact absurd (.inr (.inr h)) hbad
      · omega
    obtain ⟨k, rfl⟩ : ∃ k : Nat, n = k := ⟨n.toNat, by omega⟩
    have hk : k ≤ 30 := by omega
    have fp := ratO_some.1 hp
    rw [hp] at ho
    have ho : roundQ true (k : Int) p = o := ho
    unfold roundQ at ho
    rw [Int.toNat_natCast] at ho
    by_cases hs : sm (gridZ k p)
    · rw [if_pos ⟨hn0, hn1, hs⟩] at ho
      obtain ⟨s1, s2, s3⟩ := round_small fp.2.small hs
      obtain ⟨Q, hQ⟩ := Is.ex s1
      obtain ⟨R, hR⟩ := Is.ex s2
      have CG := Lib.hid (fun w => grid_good x y p fp k hk hs Q R hQ hR w)
      have hT := is_pw (k := k) (by omega)
      have hpw := pw_pos k
      by_cases hz : gridZ k p % p.den = 0
      · have hr : roundZ true k p = gridZ k p / p.den := by unfold roundZ; simp [hz]
        rw [hr] at ho
        obtain rfl : R = ⟨#[48]⟩ := hR.uniq (lit_0.cast hz.symm)
        have MK := Lib.hid (fun w => tmake_is hQ hT ((if_neg (by omega)).trans ho : makeQ (gridZ k p / p.den) ((10 ^ k : Nat) : Int) = o) w)
        generalize pw k = t at *
        clear hx hy hbad hp fp ho hs s1 s2 s3 hQ hR hT hpw hn0 hn1 hk hz hr
        go_enter Tryz.func38, Tryz.ntmps38
        go_wp2_with (first
            | (go_at_call 70; (with_reducible refine (CG.out _).mono ?_); rintro e w1 ⟨rfl, hb⟩; have hp := below_up (below_up (below1 w (.cells #[.string x, .string y] 23)) (below1 ((w.alloc (.cells #[.string x, .string y] 23))) (.cells #[.string ⟨#[]⟩, .string ⟨#[]⟩] 23))) hb; have Ba := ((Blk.new w 23 [.string x, .string y]).alloc _).below hb; have Bz := (Blk.new2 w (.cells #[.string x, .string y] 23) 23 [.string ⟨#[]⟩, .string ⟨#[]⟩]).below hb; replace hB := below_up hB hp; clear hb hp)
            | (go_at_call 39; (with_reducible refine (MK.out _).mono ?_); rintro e w2 ⟨rfl, hb⟩; have hp := hb; replace Ba := Ba.below hp; replace Bz := Bz.below hp; replace hB := below_up hB hp; clear hb hp; have cz_0 := Bz.cell 0 (v := .string ⟨#[]⟩) rfl; have cz_1 := Bz.cell 1 (v := .string ⟨#[]⟩) rfl; have f0 := Bz.frozen 0; have f1 := Bz.frozen 1))
        have ZF := (Bz.set 0 (.string (numT o))).set 1 (.string (denT o))
        have e0 := ZF.cell 0 (v := .string (numT o)) rfl
        have e1 := ZF.cell 1 (v := .string (denT o)) rfl
        refine bodyPost_ret (v := .tuple #[.agg #[.string (numT o), .string (denT o)], .int .i64 (errT o)]) (by simp [results, Tryz.results38, go_sem, e0, e1]) rfl ⟨rfl, (hB.setCell (by dsimp; omega) _).setCell (by dsimp; omega) _⟩
      · have hr : roundZ true k p = gridZ k p / p.den + 1 := by unfold roundZ; simp [hz]
        rw [hr] at ho
        have hR1 := hR.differ0 hz
        obtain ⟨S, hS⟩ := Is.ex (s3 hz)
        have CA := Lib.hid (fun w => radd_is hQ lit_1 hS rfl w)
        have MK := Lib.hid (fun w => tmake_is hS hT ((if_neg (by omega)).trans ho : makeQ (gridZ k p / p.den + 1) ((10 ^ k : Nat) : Int) = o) w)
        generalize pw k = t at *
        clear hx hy hbad hp fp ho hs s1 s2 s3 hQ hR hT hpw hn0 hn1 hk hz hr hS
        go_enter Tryz.func38, Tryz.ntmps38
        go_wp2_with (first
            | (go_at_call 70; (with_reducible refine (CG.out _).mono ?_); rintro e w1 ⟨rfl, hb⟩; have hp := below_up (below_up (below1 w (.cells #[.string x, .string y] 23)) (below1 ((w.alloc (.cells #[.string x, .string y] 23))) (.cells #[.string ⟨#[]⟩, .string ⟨#[]⟩] 23))) hb; have Ba := ((Blk.new w 23 [.string x, .string y]).alloc _).below hb; have Bz := (Blk.new2 w (.cells #[.string x, .string y] 23) 23 [.string ⟨#[]⟩, .string ⟨#[]⟩]).below hb; replace hB := below_up hB hp; clear hb hp)
            | (go_at_call 64; (with_reducible refine (CA.out _).mono ?_); rintro e w2 ⟨rfl, hb⟩; have hp := hb; replace Ba := Ba.below hp; replace Bz := Bz.below hp; replace hB := below_up hB hp; clear hb hp)
            | (go_at_call 39; (with_reducible refine (MK.out _).mono ?_); rintro e w3 ⟨rfl, hb⟩; have hp := hb; replace Ba := Ba.below hp; replace Bz := Bz.below hp; replace hB := below_up hB hp; clear hb hp; have cz_0 := Bz.cell 0 (v := .string ⟨#[]⟩) rfl; have cz_1 := Bz.cell 1 (v := .string ⟨#[]⟩) rfl; have f0 := Bz.frozen 0; have f1 := Bz.frozen 1))
        have ZF := (Bz.set 0 (.string (numT o))).set 1 (.string (denT o))
        have e0 := ZF.cell 0 (v := .string (numT o)) rfl
        have e1 := ZF.cell 1 (v := .string (denT o)) rfl
        refine bodyPost_ret (v := .tuple #[.agg #[.string (numT o), .string (denT o)], .int .i64 (errT o)]) (by simp [results, Tryz.results38, go_sem, e0, e1]) rfl ⟨rfl, (hB.setCell (by dsimp; omega) _).setCell (by dsimp; omega) _⟩
    · rw [if_neg (fun h => hs h.2.2)] at ho
      subst ho
      have CG := Lib.hid (fun w => grid_over x y p fp k hk hs w)
      clear hx hy hbad hp fp hs hn0 hn1 hk
      go_enter Tryz.func38, Tryz.ntmps38
      go_wp2_with (first
          | (go_at_call 70; (with_reducible refine (CG.out _).mono ?_); rintro e w1 ⟨rfl, hb⟩; have hp := below_up (below_up (below1 w (.cells #[.string x, .string y] 23)) (below1 ((w.alloc (.cells #[.string x, .string y] 23))) (.cells #[.string ⟨#[]⟩, .string ⟨#[]⟩] 23))) hb; have Ba := ((Blk.new w 23 [.string x, .string y]).alloc _).below hb; have Bz := (Blk.new2 w (.cells #[.string x, .string y] 23) 23 [.string ⟨#[]⟩, .string ⟨#[]⟩]).below hb; replace hB := below_up hB hp; clear hb hp; have cz_0 := Bz.cell 0 (v := .string ⟨#[]⟩) rfl; have cz_1 := Bz.cell 1 (v := .string ⟨#[]⟩) rfl; have f0 := Bz.frozen 0; have f1 := Bz.frozen 1))
      have ZF := (Bz.set 0 (.string ⟨#[]⟩)).set 1 (.string ⟨#[]⟩)
      have e0 := ZF.cell 0 (v := .string ⟨#[]⟩) rfl
      have e1 := ZF.cell 1 (v := .string ⟨#[]⟩) rfl
      refine bodyPost_ret (v := .tuple #[.agg #[.string ⟨#[]⟩, .string ⟨#[]⟩], .int .i64 40]) (by simp [results, Tryz.results38, go_sem, e0, e1]) rfl ⟨rfl, (hB.setCell (by dsimp; omega) _).setCell (by dsimp; omega) _⟩

end Go.Proofs.YtnioinccflmdjaaGreatDoor
