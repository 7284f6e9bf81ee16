/- Slices that are only read: 'Rd w v xs': the slice value v reads as the numbers xs; it stays so whatever is laid later. Conditions: none. -/
import Derived.Test.YtcpkejpdpohfeaaGreatDoorProg
import Derived.Test.YtcpkejpdpohfeaaGreatDoorNum
import Derived.WalkKit
import Derived.WalkSpells
import Derived.WalkLawsBesides
import Derived.Deep.QuietTactic
import Derived.BigQuiet
import Derived.Deep.LoopGhost
namespace Go.Proofs.YtcpkejpdpohfeaaGreatDoor
open Go.RowKit Num

/-- The slice value v reads as the numbers xs (a million of them at the most). -/
def Rd (w : World) (v : Value) (xs : List Int) : Prop :=
  ∃ (A : Option Addr) (c : Nat), v = .slice A xs.length c ∧ (xs.length ≤ c ∧ (A = none → c = 0)) ∧ xs.length ≤ 1000000 ∧
    (0 < xs.length → ∃ b o, A = some ⟨b, o, none⟩ ∧ ∀ j, j < xs.length → w.cell? ⟨b, o + j, none⟩ = some (.int .i64 (xs[j]?.getD 0)))

theorem cell_lt {w : World} {a : Addr} {v : Value} (h : w.cell? a = some v) : a.block < w.heap.size := World.block_lt_of_cell? w a h

theorem Rd.below {w w' : World} {v : Value} {xs : List Int} (h : Rd w v xs) (hb : Below w.heap.size w w') : Rd w' v xs := by
  obtain ⟨A, c, hv, hc, hm, hx⟩ := h
  refine ⟨A, c, hv, hc, hm, fun h0 => ?_⟩
  obtain ⟨b, o, hA, hx⟩ := hx h0
  exact ⟨b, o, hA, fun j hj => (hb.cell (cell_lt (hx j hj))).trans (hx j hj)⟩

theorem Rd.nil (w : World) : Rd w (.slice none 0 0) [] := ⟨none, 0, rfl, ⟨Nat.le_refl _, fun _ => rfl⟩, by simp, fun h => by simp at h⟩

theorem below_drewN {B : Nat} {w W : World} (h : Below B w W) (n : Nat) : Below B w (W.drewN n) := ⟨h.os, h.tape, h.output, h.size, h.block⟩
theorem below_up {w w1 w2 : World} (h : Below w.heap.size w w1) (k : Below w1.heap.size w1 w2) : Below w.heap.size w w2 :=
  h.trans (k.mono h.size)

/-- A row of the call's own is read. -/
theorem Rd.own {w : World} {base : Nat} {e : TypeId} {v : Value} {xs : List Int} (h : w.ownsRow base e 1 v xs.length (xs.map (Value.int .i64))) (hm : xs.length ≤ 1000000) : Rd w v xs := by
  obtain ⟨h1, h2⟩ := h
  rcases h2 with ⟨rfl, hn⟩ | ⟨g, cap, cur, rfl, hg, hh, hl, hc, hcap, h3⟩
  · have : xs = [] := List.eq_nil_of_length_eq_zero hn
    subst this
    exact Rd.nil w
  · have h' : w.ownsRow base e 1 (.slice (some ⟨g, 0, none⟩) xs.length cap) xs.length (xs.map (Value.int .i64)) := ⟨h1, .inr ⟨g, cap, cur, rfl, hg, hh, hl, hc, hcap, h3⟩⟩
    refine ⟨_, cap, rfl, ⟨hl, fun e => by cases e⟩, hm, fun _ => ⟨g, 0, rfl, fun j hj => ?_⟩⟩
    rw [Nat.zero_add, h'.cellAt j (by omega), List.getElem?_map]
    rw [List.getElem?_eq_getElem hj]
    rfl

/-- The call returns a slice of numbers of which P holds; what was there lies as it lay. -/
def RetL (w : World) (P : List Int → Prop) (e : Ending) (w' : World) : Prop := ∃ v ys, e = .returned v ∧ Rd w' v ys ∧ P ys ∧ Below w.heap.size w w'
/-- The call returns the groups of the number n. -/
def RetN (w : World) (n : Nat) (e : Ending) (w' : World) : Prop := ∃ v, e = .returned v ∧ Rd w' v (dg 10000 n) ∧ Below w.heap.size w w'

end Go.Proofs.YtcpkejpdpohfeaaGreatDoor
