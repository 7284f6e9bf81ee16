/- ints of workpiecelaw07. Conditions: sizes. The fixed examples of workpiecelaw07's sane: what they give. Plain. -/
import Derived.Test.YtffndcjmabjhiaaGreatDoorM9
import Derived.Test.YtffndcjmabjhiaaGreatDoorM5
import Derived.Test.YtffndcjmabjhiaaGreatDoorM15
namespace Go.Proofs.YtffndcjmabjhiaaGreatDoor
open Go.RowKit Num
open Go.Shelf

/-- Integers as fractions. -/
def ratsL (xs : List Int) : List Rat := xs.map fun (n : Int) => (n : Rat)
theorem ratsL_len (xs : List Int) : (ratsL xs).length = xs.length := by simp [ratsL]
theorem ratsL_take (xs : List Int) (j : Nat) (h : j < xs.length) : (ratsL xs).take j ++ [((xs[j]?.getD 0 : Int) : Rat)] = (ratsL xs).take (j + 1) := by
  unfold ratsL
  rw [List.take_add_one, List.getElem?_map, List.getElem?_eq_getElem h]
  rfl
theorem divInt_one (n : Int) : Rat.divInt n 1 = (n : Rat) := by
  rw [Rat.divInt_eq_div]
  have : ((1 : Int) : Rat) = 1 := rfl
  rw [this]; grind
set_option maxHeartbeats 2000000 in
set_option maxRecDepth 100000 in
theorem ints_any {v : Value} {xs : List Int} (w : World) (hv : Rd w v xs) (hm : xs.length ≤ 1000) (hb : ∀ j, j < xs.length → -1000000 ≤ xs[j]?.getD 0 ∧ xs[j]?.getD 0 ≤ 1000000) :
    Calls Tryz.prog 45 #[v] w (RetL7 w (ratsL xs)) := by
  have hfi : ∀ i, fitQ (cf (ratsL xs) i) := fun i => by
    by_cases h : i < xs.length
    · have e : cf (ratsL xs) i = ((xs[i]?.getD 0 : Int) : Rat) := by
        unfold cf ratsL
        rw [List.getD_eq_getElem?_getD, List.getElem?_map, List.getElem?_eq_getElem h]
        rfl
      rw [e]
      have := hb i h
      unfold fitQ sm
      rw [Rat.num_intCast, Rat.den_intCast]
      refine ⟨Nat.lt_of_le_of_lt (m := 1000000) (by omega) (by decide), by decide⟩
    · rw [cf_past (by rw [ratsL_len]; omega)]; exact fit_zero
  have HFI := Lib.hid hfi
  have HT := Lib.hid (ratsL_take xs)
  have CO := Lib.hid (fun (j : Nat) (hj : j < xs.length) (w : World) => by
    have h := of_any (xs[j]?.getD 0) 1 (by have := hb j hj; omega) (by have := hb j hj; omega) (by decide) (by decide) (by decide) w
    rw [divInt_one] at h
    exact (h : Calls Tryz.prog 14 #[.int .i64 (xs[j]?.getD 0), .int .i64 1] w (RetR w ((xs[j]?.getD 0 : Int) : Rat))))
  obtain ⟨A, c, rfl, hc, hm2, hx⟩ := hv
  have HX := Lib.hid hx
  have hrl := ratsL_len xs
  generalize hlq : ratsL xs = lq at *
  clear hx hc hm2 hfi hb hlq
  generalize hn : xs.length = n at *
  have hB : Below w.heap.size w w := Below.refl _ _
  go_enter Tryz.func45, Tryz.ntmps45
  go_wp2
  go_loopg [3, 4] n (fun k s3 s4 wr => ∃ j : Nat, s4 = .int .i64 j ∧ j ≤ n ∧ n ≤ k + j ∧ RowR wr w.heap.size s3 (lq.take j) ∧ Below w.heap.size w wr)
  case atStart => exact ⟨0, rfl, by omega, by omega, RowR.nil _ _, hB⟩
  case round =>
    clear hB
    obtain ⟨j, rfl, hj, hk, hR, hB⟩ := hrel
    by_cases hg : j < n
    · have hgi : (j : Int) < n := by omega
      obtain ⟨b, o, rfl, hy⟩ := HX.out (by omega)
      have k0 := (hB.cell (cell_lt (hy j hg))).trans (hy j hg)
      have C1 := Lib.hid (CO.out j hg)
      have HTK := Lib.hid (HT.out j hg)
      have hlj : (lq.take j).length ≤ 1000 := by rw [List.length_take]; omega
      clear hy
      generalize xs[j]?.getD 0 = x at *
      generalize (x : Rat) = q at *
      generalize lq.take j = lt at *
      go_wp2_with (first
        | (go_at_call 14; (with_reducible refine (C1.out _).mono ?_); rintro e w1 ⟨rfl, hb⟩; have hR1 := hR.below hb; have hB1 := below_up hB hb; clear hb)
        | (at_builtin; refine app_rat rfl (.tmp 11) (.tmp 17) Tryz.underlying24 rfl w.heap.size _ lt q rfl hR1 rfl hlj (hB1.size) ?_; intro v' wA hRA hBA; have hB2 := hBA _ _ hB1 (Nat.le_refl _)))
      all_goals go_roundg (n - (j + 1))
      all_goals first | omega | exact ⟨j + 1, by go_num, by omega, by omega, HTK.out ▸ hRA, hB2⟩
    · obtain rfl : j = n := by omega
      rw [← hrl, List.take_length] at hR
      go_wp2
      go_ret
      exact ⟨_, rfl, hR.pv (by omega) HFI.out, hB⟩

end Go.Proofs.YtffndcjmabjhiaaGreatDoor

namespace Go.Proofs.YtffndcjmabjhiaaGreatDoor
open Num

theorem rat_whole {q : Rat} (h : q.den = 1) : q = ((q.num : Int) : Rat) := Rat.ext (Rat.num_intCast _).symm (by rw [h, Rat.den_intCast])
def bdB (D N : Nat) (x : Rat) : Bool := decide ((x * (D : Rat)).den = 1) && decide ((x * (D : Rat)).num.natAbs ≤ N)
theorem bdB_bd {D N : Nat} {x : Rat} (h : bdB D N x = true) : bd D N x := by
  unfold bdB at h
  rw [Bool.and_eq_true, decide_eq_true_iff, decide_eq_true_iff] at h
  exact ⟨_, h.2, rat_whole h.1⟩
def okB (x : Rat) : Bool := bdB 16 1000 x
theorem okB_pl (x : Rat) (h : okB x = true) : Pl x := bdB_bd h
def smB (l : List Rat) : Bool := decide (l.length ≤ 13) && l.all (bdB 1 1000)
theorem smB_sm {l : List Rat} (h : smB l = true) : Sm l := by
  unfold smB at h
  rw [Bool.and_eq_true, decide_eq_true_iff] at h
  refine ⟨h.1, fun i => ?_⟩
  by_cases hi : i < l.length
  · rw [cf_at hi]
    exact bdB_bd (List.all_eq_true.1 h.2 _ (List.getElem_mem hi))
  · rw [cf_past (by omega)]
    exact bd.zero _ _
theorem smB_all {ls : List (List Rat)} (h : ls.all smB = true) : ∀ l ∈ ls, Sm l := fun l hl => smB_sm (List.all_eq_true.1 h l hl)
theorem Sm.vp {l : List Rat} (h : Sm l) (hn : ntB l = true) : Vp l := by
  refine ⟨h.1, ?_, fun i => lim.fit ((h.2 i).lim90 (by decide) (by decide) (by decide)) (by decide)⟩
  unfold ntB at hn
  rw [Bool.or_eq_true, decide_eq_true_iff, decide_eq_true_iff] at hn
  rcases hn with hn | hn
  · exact .inl (List.eq_nil_of_length_eq_zero hn)
  · exact .inr hn
def c1 : List (List Rat) := [[-2, 0, 1], [0, 2], [1]]
def c2 : List (List Rat) := [[-1, 1], [1]]
def c3 : List (List Rat) := [[0, -1, 1], [-1, 2], [1]]
set_option maxRecDepth 100000
theorem lit_mul : timesO (ratsL [1, 1]) (ratsL [1, -1]) = some (ratsL [1, 0, -1]) := by decide +kernel
theorem lit_by : byO (ratsL [-1, 0, 1]) (ratsL [-2, 1]) = some (ratsL [2, 1], ratsL [3]) := by decide +kernel
theorem lit_gcd : gcdO (ratsL [-2, 2]).length (ratsL [-1, 0, 1]) (ratsL [-2, 2]) = some (ratsL [-1, 1]) := by decide +kernel
theorem lit_deriv : derivO (ratsL [0, 0, 0, 1]) = some (ratsL [0, 0, 3]) := by decide +kernel
theorem lit_s1 : sturmO (ratsL [-2, 0, 1]) = some c1 := by decide +kernel
theorem lit_s2 : sturmO (ratsL [-1, 3, -3, 1]) = some c2 := by decide +kernel
theorem lit_s3 : sturmO (ratsL [0, -1, 1]) = some c3 := by decide +kernel
theorem lit_c1 : c1.all smB = true := by decide +kernel
theorem lit_c2 : c2.all smB = true := by decide +kernel
theorem lit_c3 : c3.all smB = true := by decide +kernel
theorem lit_v1 : (varL c1 0 : Int) - (varL c1 2 : Int) = 1 := by decide +kernel
theorem lit_v2 : (varL c1 (-2) : Int) - (varL c1 2 : Int) = 2 := by decide +kernel
theorem lit_v3 : (varL c2 0 : Int) - (varL c2 1 : Int) = 1 := by decide +kernel
theorem lit_e1 : examO c1 (mostO 1) okB 12 0 2 = some [(Rat.divInt 11 8, Rat.divInt 23 16)] := by decide +kernel
theorem lit_e2 : examO c3 (mostO 0) okB 12 (-1) 1 = some [(0, 0), (1, 1)] := by decide +kernel
theorem lit_ev : evP (ratsL [1, 2, 3]) 2 = 17 := by decide +kernel
theorem lit_sm : (ratsL [1, 1] :: ratsL [1, -1] :: ratsL [-1, 0, 1] :: ratsL [-2, 1] :: ratsL [-2, 2] :: ratsL [0, 0, 0, 1] :: ratsL [-2, 0, 1] :: ratsL [-1, 3, -3, 1] :: ratsL [0, -1, 1] :: ratsL [1, 2, 3] :: []).all (fun l => smB l && ntB l) = true := by decide +kernel
theorem lit_vp {l : List Rat} (h : (smB l && ntB l) = true) : Vp l := by
  rw [Bool.and_eq_true] at h
  exact (smB_sm h.1).vp h.2

end Go.Proofs.YtffndcjmabjhiaaGreatDoor
