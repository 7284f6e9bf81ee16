/- The function that Isolate tries. Conditions: the tables of strconv; the chain is small; no operation fails. Isolate of package poly. Conditions: the tables of strconv; the polynomial is valid; the chain is small; no operation fails. -/
import Derived.Test.YtffndcjmabjhiaaGreatDoorM14
import Derived.Test.YtffndcjmabjhiaaGreatDoorK14
namespace Go.Proofs.YtffndcjmabjhiaaGreatDoor
open Go.RowKit Num
open Go.Shelf

theorem repeat_zr (k : Nat) (h : k ≤ 30) (w : World) : Calls Tryz.prog 56 #[.string ⟨#[48]⟩, .int .i64 k] w fun e w' => e = .returned (.string (zr k)) ∧ Below w.heap.size w w' := by
  have r := Tryz.strings_Repeat ⟨#[48]⟩ k w (by omega) (by show 1 * k ≤ _; omega)
  rw [zr_repeat] at r
  exact r
/-- The length of a small interval. -/
def mostO (k : Nat) : Rat := Rat.divInt 1 ((10 ^ k : Nat) : Int)
theorem most_fit {k : Nat} (h : k ≤ 30) : fitQ (mostO k) := by
  have h1 : (10 ^ k : Nat) < 10 ^ 200 := Nat.pow_lt_pow_right (by decide) (by omega)
  exact lim.fit (k := 200) (lim_divInt (by decide) (by rw [Int.natAbs_natCast]; exact h1) (by have : 0 < 10 ^ k := Nat.pow_pos (by decide); omega)) (Nat.le_refl _)
theorem most_make (k : Nat) : makeQ 1 ((10 ^ k : Nat) : Int) = some (mostO k) := by
  unfold makeQ mostO
  rw [if_neg (by have : 0 < 10 ^ k := Nat.pow_pos (by decide); omega)]
/-- The call returns intervals. -/
def RetIv (w : World) (l : List (Rat × Rat)) (e : Ending) (w' : World) : Prop := ∃ v B, e = .returned v ∧ RowI w' B v l ∧ Below w.heap.size w w'

set_option maxHeartbeats 2000000 in
set_option maxRecDepth 100000 in
theorem cl_isolate {v : Value} {p : List Rat} {ls : List (List Rat)} {lo hi : Rat} {k fuel : Nat} {new : List (Rat × Rat)} {B0 B1 B2 B3 : Nat} (W : World) (h1 : W.cell? ⟨B0, 0, none⟩ = some (.int .i64 k)) (h2 : W.cell? ⟨B1, 0, none⟩ = some v) (h3 : Blk W B2 29 [.string (numT (some lo)), .string (denT (some lo))]) (h4 : Blk W B3 29 [.string (numT (some hi)), .string (denT (some hi))])
    (hv : Pv W v p) (h0 : 0 < p.length) (hp : p.length ≤ 13) (hlo : Pe ls lo) (hhi : Pe ls hi) (hle : lo ≤ hi) (hs : sturmO p = some ls) (hk : k ≤ 30) (ok : Rat → Bool) (hok : ∀ x, ok x = true → Pe ls x) (hex : examO ls (mostO k) ok fuel lo hi = some new) (hnew : new.length ≤ 1000) (hL : Laid W) :
    Calls Tryz.prog 52 #[.pointer (some ⟨B0, 0, none⟩), .pointer (some ⟨B1, 0, none⟩), .pointer (some ⟨B2, 0, none⟩), .pointer (some ⟨B3, 0, none⟩)] W (RetIv W new) := by
  have M := Lib.hid (fun w => must_true w)
  have CS : Hid (∀ (w : World), Pv w v p → Laid w → Calls Tryz.prog 50 #[v, .agg #[.string (numT (some lo)), .string (denT (some lo))], .agg #[.string (numT (some hi)), .string (denT (some hi))]] w (fun e w' => ∃ c, e = .returned (.agg #[c, .string (numT (some lo)), .string (denT (some lo)), .int .i64 (varL ls lo : Nat), .bool (rootL ls lo), .string (numT (some hi)), .string (denT (some hi)), .int .i64 (varL ls hi : Nat), .bool (rootL ls hi)]) ∧ Cv w' c ls ∧ Below w.heap.size w w')) :=
    Lib.hid (fun w hv hL => spanned_any w hv h0 hp hlo hhi hle hs hL)
  have hl := (sturm_len hs).2
  have HV := Lib.hid hv
  have HL0 := Lib.hid hL
  have CR := Lib.hid (fun w => repeat_zr k hk w)
  have CM : Hid (∀ (w : World), Laid w → Calls Tryz.prog 55 #[.string ⟨#[49]⟩, .string (pw k)] w (fun e w' => e = .returned (.tuple #[.agg #[.string (numT (some (mostO k))), .string (denT (some (mostO k)))], .int .i64 0]) ∧ Below w.heap.size w w')) := Lib.hid (fun w hL => make_r lit_1 (is_pw (by omega)) (most_make k) w hL)
  have CC := Lib.hid (fun w => checked_ok (numT (some (mostO k))) (denT (some (mostO k))) w)
  have hki : (0 : Int) ≤ (k : Int) := by omega
  have hkj : (k : Int) ≤ 30 := by omega
  have hpw : (⟨#[49]⟩ : ByteArray) ++ zr k = pw k := rfl
  have hzs : (zr k).size ≤ 30 := by rw [zr_size]; exact hk
  have hcat : ¬ 9223372036854775807 < (⟨#[49]⟩ : ByteArray).size + (zr k).size := by have : (⟨#[49]⟩ : ByteArray).size = 1 := rfl; omega
  have hmf := most_fit hk
  have EX := Lib.hid (fun (wS w0 : World) (q bm bs be : Nat) (ch : Value) (sp : List Value) (E : Env wS w0 q bm bs be ch ls (mostO k) sp) (hX : ExW w0 w0 q (.slice none 0 0) []) => exam_any E hmf hl ok hok fuel lo hi new [] (.slice none 0 0) w0 hex (by simpa using hnew) hlo hhi hX)
  have l0 := h3.cell 0 (v := .string (numT (some lo))) rfl
  have l1 := h3.cell 1 (v := .string (denT (some lo))) rfl
  have i0 := h4.cell 0 (v := .string (numT (some hi))) rfl
  have i1 := h4.cell 1 (v := .string (denT (some hi))) rfl
  have hmk : ∀ (fn : Fn) (first cap : Array Value) (w : World), (Instr.makeFunc fn first cap).run Tryz.prog w = .ok (.func fn first cap) w := fun _ _ _ _ => rfl
  obtain ⟨A, c, rfl, -, -, -⟩ := hv
  generalize varL ls lo = vlo at *
  generalize varL ls hi = vhi at *
  generalize rootL ls lo = rlo at *
  generalize rootL ls hi = rhi at *
  generalize mostO k = most at *
  generalize hpwk : pw k = pk at *
  clear hlo hhi hle hs hL h0 hex hok hpwk
  go_enter Tryz.func52, Tryz.ntmps52
  go_wp2_with (first
    | (go_at_call 53; (with_reducible refine (M.out _).mono ?_); rintro e w' ⟨rfl, hw⟩; rw [hw]; clear hw)
    | (go_at_call 50; (with_reducible refine (CS.out _ HV.out HL0.out).mono ?_); rintro e w1 ⟨ch, rfl, hch, hb⟩; have HCH := Lib.hid hch; obtain ⟨-, gc, cc, rfl, -⟩ := hch; have kk := (hb.cell (cell_lt h1)).trans h1; have Bs := Blk.new w1 100 [.slice (some ⟨gc, 0, none⟩) ls.length cc, .string (numT (some lo)), .string (denT (some lo)), .int .i64 vlo, .bool rlo, .string (numT (some hi)), .string (denT (some hi)), .int .i64 vhi, .bool rhi]; have hB1 := below1 w1 (.cells #[.slice (some ⟨gc, 0, none⟩) ls.length cc, .string (numT (some lo)), .string (denT (some lo)), .int .i64 vlo, .bool rlo, .string (numT (some hi)), .string (denT (some hi)), .int .i64 vhi, .bool rhi] 100); have hB := below_up hb hB1; have kk2 := (hB1.cell (cell_lt kk)).trans kk; clear hb)
    | (go_at_call 56; (with_reducible refine (CR.out _).mono ?_); rintro e w2 ⟨rfl, hb⟩; replace hB := below_up hB hb; replace hB1 := below_up hB1 hb; replace Bs := Bs.below hb; clear hb)
    | (go_at_call 55; (with_reducible refine (CM.out _ (HL0.out.below hB)).mono ?_); rintro e w3 ⟨rfl, hb⟩; replace hB := below_up hB hb; replace hB1 := below_up hB1 hb; replace Bs := Bs.below hb; clear hb)
    | (go_at_call 54; (with_reducible refine (CC.out _).mono ?_); rintro e w4 ⟨rfl, hb⟩; replace hB := below_up hB hb; replace hB1 := below_up hB1 hb; replace Bs := Bs.below hb; clear hb; have BsF := ((Bs.alloc (.cells #[.string (numT (some most)), .string (denT (some most))] 29)).alloc (.cells #[.slice none 0 0] 34)).alloc (.cells #[.func (.func 57) #[] #[.pointer (some ⟨w4.heap.size, 0, none⟩), .pointer (some ⟨w4.heap.size + 1, 0, none⟩), .pointer (some ⟨w1.heap.size, 0, none⟩), .pointer (some ⟨w4.heap.size + 1 + 1, 0, none⟩)]] 108); have s1 := BsF.cell 1 (v := .string (numT (some lo))) rfl; have s2 := BsF.cell 2 (v := .string (denT (some lo))) rfl; have s3 := BsF.cell 3 (v := .int .i64 vlo) rfl; have s4 := BsF.cell 4 (v := .bool rlo) rfl; have s5 := BsF.cell 5 (v := .string (numT (some hi))) rfl; have s6 := BsF.cell 6 (v := .string (denT (some hi))) rfl; have s7 := BsF.cell 7 (v := .int .i64 vhi) rfl; have s8 := BsF.cell 8 (v := .bool rhi) rfl; have hbs := Bs.lt; have E : Env (w4.alloc (.cells #[.string (numT (some most)), .string (denT (some most))] 29)) (((w4.alloc (.cells #[.string (numT (some most)), .string (denT (some most))] 29)).alloc (.cells #[.slice none 0 0] 34)).alloc (.cells #[.func (.func 57) #[] #[.pointer (some ⟨w4.heap.size, 0, none⟩), .pointer (some ⟨w4.heap.size + 1, 0, none⟩), .pointer (some ⟨w1.heap.size, 0, none⟩), .pointer (some ⟨w4.heap.size + 1 + 1, 0, none⟩)]] 108)) (w4.heap.size + 1) w4.heap.size w1.heap.size (w4.heap.size + 1 + 1) (.slice (some ⟨gc, 0, none⟩) ls.length cc) ls most [.string (numT (some lo)), .string (denT (some lo)), .int .i64 vlo, .bool rlo, .string (numT (some hi)), .string (denT (some hi)), .int .i64 vhi, .bool rhi] := ⟨below_up (below1 _ _) (below1 _ _), HL0.out.below (below_up hB (below1 _ _)), HCH.out.below (below_up hB1 (below1 _ _)), by rw [World.size_alloc]; exact Nat.le_refl _, by rw [World.size_alloc, World.size_alloc, World.size_alloc]; omega, ((Blk.new w4 29 [.string (numT (some most)), .string (denT (some most))]).alloc _).alloc _, by omega, BsF, by omega, Blk.new3 w4 _ _ _ [.func (.func 57) #[] #[.pointer (some ⟨w4.heap.size, 0, none⟩), .pointer (some ⟨w4.heap.size + 1, 0, none⟩), .pointer (some ⟨w1.heap.size, 0, none⟩), .pointer (some ⟨w4.heap.size + 1 + 1, 0, none⟩)]], by omega⟩; have hX : ExW (((w4.alloc (.cells #[.string (numT (some most)), .string (denT (some most))] 29)).alloc (.cells #[.slice none 0 0] 34)).alloc (.cells #[.func (.func 57) #[] #[.pointer (some ⟨w4.heap.size, 0, none⟩), .pointer (some ⟨w4.heap.size + 1, 0, none⟩), .pointer (some ⟨w1.heap.size, 0, none⟩), .pointer (some ⟨w4.heap.size + 1 + 1, 0, none⟩)]] 108)) (((w4.alloc (.cells #[.string (numT (some most)), .string (denT (some most))] 29)).alloc (.cells #[.slice none 0 0] 34)).alloc (.cells #[.func (.func 57) #[] #[.pointer (some ⟨w4.heap.size, 0, none⟩), .pointer (some ⟨w4.heap.size + 1, 0, none⟩), .pointer (some ⟨w1.heap.size, 0, none⟩), .pointer (some ⟨w4.heap.size + 1 + 1, 0, none⟩)]] 108)) (w4.heap.size + 1) (.slice none 0 0) [] := ⟨Turn.refl _ _, (Blk.new2 w4 _ 34 [.slice none 0 0]).alloc _, RowI.nil _ _⟩; have CX := Lib.hid (EX.out _ _ _ _ _ _ _ _ E hX); have HB5 := Lib.hid (below_up hB (below_up (below_up (below1 w4 (.cells #[.string (numT (some most)), .string (denT (some most))] 29)) (below1 _ (.cells #[.slice none 0 0] 34))) (below1 _ (.cells #[.func (.func 57) #[] #[.pointer (some ⟨w4.heap.size, 0, none⟩), .pointer (some ⟨w4.heap.size + 1, 0, none⟩), .pointer (some ⟨w1.heap.size, 0, none⟩), .pointer (some ⟨w4.heap.size + 1 + 1, 0, none⟩)]] 108)))); have HWS := Lib.hid hB.size; clear E hX)
    | (go_at_call 57; (with_reducible refine CX.out.mono ?_); rintro e w6 ⟨rfl, v', hX6, hK6⟩; have X6 := Lib.hid hX6; have o0 := hX6.box.cell 0 (v := v') rfl; clear hX6 hK6))
  go_ret
  have h9 := X6.out.row
  rw [List.nil_append] at h9
  exact ⟨v', _, rfl, h9, X6.out.turn.below HB5.out (Nat.le_refl _) (fun k hk => by rw [List.mem_singleton] at hk; subst hk; have := HWS.out; omega)⟩

end Go.Proofs.YtffndcjmabjhiaaGreatDoor

namespace Go.Proofs.YtffndcjmabjhiaaGreatDoor
open Go.RowKit Num
open Go.Shelf

/-- The call returns intervals and no error. -/
def RetIvE (w : World) (l : List (Rat × Rat)) (e : Ending) (w' : World) : Prop := ∃ v, e = .returned (.tuple #[v, .int .i64 0]) ∧ (∃ B, RowI w' B v l) ∧ Below w.heap.size w w'
theorem Blk.new5 (w : World) (o o' o'' o3 : Obj) (T : TypeId) (vs : List Value) : Blk (((((w.alloc o).alloc o').alloc o'').alloc o3).alloc (.cells vs.toArray T)) (w.heap.size + 1 + 1 + 1 + 1) T vs := by
  have h := Blk.new4 (w.alloc o) o' o'' o3 T vs
  rwa [World.size_alloc] at h
set_option maxHeartbeats 2000000 in
set_option maxRecDepth 100000 in
theorem try_iv {G : FuncId} {caps : Array Value} {r : List (Rat × Rat)} {gl n : Nat} (w : World) (eg : ∀ args w, (callFunc G args).run Tryz.prog w = .ok (.enter G args) w) (hn : n ≤ 1000) (hv : AllV w gl n)
    (hf : ∀ W, Below w.heap.size w W → Calls Tryz.prog G caps W (RetIv W r)) (hL : Laid w) :
    Calls Tryz.prog 51 #[.func (.func G) #[] caps, .slice (some ⟨gl, 0, none⟩) n n] w (RetIvE w r) := by
  have HV := Lib.hid hv
  have HL0 := Lib.hid hL
  have HF := Lib.hid hf
  have M := Lib.hid (fun w => must_true w)
  clear hv hf
  have b1 := below1 w (.cells #[.int .i64 0] 31)
  have Be := Blk.new w 31 [.int .i64 0]
  go_enter_defers Tryz.func51, Tryz.ntmps51
  go_wp2
  go_loopg [10] n (fun k s10 wr => ∃ i : Nat, s10 = .int .i64 i ∧ i ≤ n ∧ n ≤ k + i ∧ Blk wr w.heap.size 31 [.int .i64 0] ∧ Below w.heap.size w wr)
  case atStart => exact ⟨0, rfl, by omega, by omega, Be, b1⟩
  case round =>
    clear Be b1
    obtain ⟨i, rfl, hi, hk, Be, hB⟩ := hrel
    by_cases hg : i < n
    · have hgi : (i : Int) < n := by omega
      obtain ⟨v, l, hc, hp, hl, hnt⟩ := HV.out i hg
      have C := pvalid_any wr (hp.below hB) hl (HL0.out.below hB)
      rw [ntB_true hnt] at C
      have CV := Lib.hid C
      have k0 := (hB.cell (cell_lt hc)).trans hc
      clear C hc hp hl hnt
      go_wp2_with (first
        | (go_at_call 43; (with_reducible refine CV.out.mono ?_); rintro e w1 ⟨rfl, hb⟩; replace Be := Be.below hb; replace hB := below_up hB hb; clear hb)
        | (go_at_call 53; refine (M.out _).mono ?_; rintro e w' ⟨rfl, hw⟩; rw [hw]; clear hw))
      all_goals go_roundg (n - (i + 1))
      all_goals first | omega | exact ⟨i + 1, by go_num, by omega, by omega, Be, hB⟩
    · obtain rfl : i = n := by omega
      have HC := Lib.hid (HF.out wr hB)
      go_wp2_with (go_at_fn G; refine HC.out.mono ?_; rintro e w1 ⟨v, BB, rfl, hv, hb⟩; have HR := Lib.hid hv; clear hv; replace Be := Be.below hb; replace hB := below_up hB hb; clear hb; have e0 := Be.cell 0 (v := .int .i64 0) rfl; have f0 := Be.frozen 0)
      have Be2 := Be.set 0 (.int .i64 0)
      have e1 := Be2.cell 0 (v := .int .i64 0) rfl
      refine leaves_cons (f := 148) (args := #[.pointer (some ⟨w.heap.size, 0, none⟩)]) (by simp) (by simp [go_sem]) ?_
      refine (failed_idle ⟨w.heap.size, 0, none⟩ _).mono ?_
      rintro e u' w'' ⟨rfl, rfl, rfl⟩
      simp [Leaves, settle, results, Tryz.results51, go_sem, e1]
      exact ⟨v, rfl, ⟨BB, HR.out.kept (grownBy_setCell' w1 w.heap.size (.int .i64 0)) (.inr (HR.out.ne Be (fun cur e => by injection e with _ h _; exact absurd h (by decide))))⟩, hB.setCell (Nat.le_refl _) _⟩
set_option maxHeartbeats 1000000 in
set_option maxRecDepth 100000 in
theorem api_isolate {v : Value} {p : List Rat} {ls : List (List Rat)} {lo hi : Rat} {k fuel : Nat} {new : List (Rat × Rat)} (w : World) (hv : Pv w v p) (hp : Vp p) (h0 : 0 < p.length) (hlo : Pe ls lo) (hhi : Pe ls hi) (hle : lo ≤ hi) (hs : sturmO p = some ls) (hk : k ≤ 30) (ok : Rat → Bool) (hok : ∀ x, ok x = true → Pe ls x) (hex : examO ls (mostO k) ok fuel lo hi = some new) (hnew : new.length ≤ 1000) (hL : Laid w) :
    Calls Tryz.prog 16 #[v, .agg #[.string (numT (some lo)), .string (denT (some lo))], .agg #[.string (numT (some hi)), .string (denT (some hi))], .int .i64 k] w (RetIvE w new) := by
  have HV := Lib.hid hv
  have hmf : ∀ (fn : Fn) (first cap : Array Value) (w : World), (Instr.makeFunc fn first cap).run Tryz.prog w = .ok (.func fn first cap) w := fun _ _ _ _ => rfl
  obtain ⟨A, c, rfl, -, -, -⟩ := hv
  obtain ⟨w4, hw4⟩ : ∃ w4, ((((w.alloc (.cells #[.slice A p.length c] 24)).alloc (.cells #[.string (numT (some lo)), .string (denT (some lo))] 29)).alloc (.cells #[.string (numT (some hi)), .string (denT (some hi))] 29)).alloc (.cells #[.int .i64 k] 3)).alloc (.cells #[.slice A p.length c] 119) = w4 := ⟨_, rfl⟩
  have hb4 : Below w.heap.size w w4 := by rw [← hw4]; exact below_up (below_up (below_up (below_up (below1 _ _) (below1 _ _)) (below1 _ _)) (below1 _ _)) (below1 _ _)
  have B2 : Blk w4 w.heap.size 24 [.slice A p.length c] := by rw [← hw4]; exact ((((Blk.new w _ _).alloc _).alloc _).alloc _).alloc _
  have B3 : Blk w4 (w.heap.size + 1) 29 [.string (numT (some lo)), .string (denT (some lo))] := by rw [← hw4]; exact (((Blk.new2 w _ _ _).alloc _).alloc _).alloc _
  have B4 : Blk w4 (w.heap.size + 1 + 1) 29 [.string (numT (some hi)), .string (denT (some hi))] := by rw [← hw4]; exact ((Blk.new3 w _ _ _ _).alloc _).alloc _
  have B6 : Blk w4 (w.heap.size + 1 + 1 + 1) 3 [.int .i64 k] := by rw [← hw4]; exact (Blk.new4 w _ _ _ _ _).alloc _
  have B5 : Blk w4 (w.heap.size + 1 + 1 + 1 + 1) 119 [.slice A p.length c] := by
    rw [← hw4]
    exact Blk.new5 w _ _ _ _ _ _
  have hall : AllV w4 (w.heap.size + 1 + 1 + 1 + 1) 1 := fun i hi => by
    obtain rfl : i = 0 := by omega
    exact ⟨_, p, B5.cell 0 rfl, HV.out.below hb4, hp.1, hp.2.1⟩
  have CT := Lib.hid (try_iv (G := 52) (caps := #[.pointer (some ⟨w.heap.size + 1 + 1 + 1, 0, none⟩), .pointer (some ⟨w.heap.size, 0, none⟩), .pointer (some ⟨w.heap.size + 1, 0, none⟩), .pointer (some ⟨w.heap.size + 1 + 1, 0, none⟩)]) w4 (enters_of Tryz.func52 (by kernel_rfl) rfl) (by omega) hall
    (fun W hb => cl_isolate W ((B6.below hb).cell 0 rfl) ((B2.below hb).cell 0 rfl) (B3.below hb) (B4.below hb) (HV.out.below (below_up hb4 hb)) h0 hp.1 hlo hhi hle hs hk ok hok hex hnew (hL.below (below_up hb4 hb))) (hL.below hb4))
  have HB4 := Lib.hid hb4
  clear B2 B3 B4 B5 B6 hall hp hb4
  clear hlo hhi hle hs hex hok
  subst hw4
  go_enter Tryz.func16, Tryz.ntmps16
  go_wp2_with (go_at_call 51; (with_reducible refine CT.out.mono ?_); rintro e w1 ⟨x, rfl, hx, hb⟩; have HX := Lib.hid hx; clear hx)
  go_ret2
  exact ⟨x, rfl, HX.out, below_up HB4.out hb⟩

end Go.Proofs.YtffndcjmabjhiaaGreatDoor
