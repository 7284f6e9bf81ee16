/- spanned: the chain of a polynomial, and its two places. Conditions: the tables of strconv; the chain is small. Count of package poly: where nothing fails, and where the polynomial is empty. Conditions: the tables of strconv; the chain is small. Count of package poly. Conditions: the tables of strconv; the polynomial is valid; the chain is small. -/
import Derived.Test.YtffndcjmabjhiaaGreatDoorM11
import Derived.Test.YtffndcjmabjhiaaGreatDoorM8
namespace Go.Proofs.YtffndcjmabjhiaaGreatDoor
open Go.RowKit Num
open Go.Shelf

/-- A chain with its two places. -/
def spanV (c : Value) (ls : List (List Rat)) (lo hi : Rat) : Value := .agg #[c, .string (numT (some lo)), .string (denT (some lo)), .int .i64 (varL ls lo : Nat), .bool (rootL ls lo), .string (numT (some hi)), .string (denT (some hi)), .int .i64 (varL ls hi : Nat), .bool (rootL ls hi)]
def RetSp (w : World) (ls : List (List Rat)) (lo hi : Rat) (e : Ending) (w' : World) : Prop := ∃ c, e = .returned (spanV c ls lo hi) ∧ Cv w' c ls ∧ Below w.heap.size w w'
theorem cmp_le {a b : Rat} (h : a ≤ b) : cmpO (some a) (some b) ≤ 0 := by
  rw [cmpO_some]
  split
  · decide
  · split
    · rename_i h2; exact absurd h (Rat.not_le.2 h2)
    · decide

theorem num_ne {q : Rat} (h : fitQ q) : numT (some q) ≠ ⟨#[]⟩ := fun e => by
  have h2 : rdI (tx q.num) = some q.num := (fr_fit h).1
  have e' : tx q.num = ⟨#[]⟩ := e
  rw [e'] at h2
  cases h2
/-- A block in which no text stands. -/
def NoTx (W : World) (Q : Nat) : Prop := ∀ k s, W.cell? ⟨Q, k, none⟩ = some (.string s) → s = ⟨#[]⟩
theorem noTx_blk {W : World} {Q : Nat} {T : TypeId} {vs : List Value} (h : Blk W Q T vs) (hv : ∀ s, Value.string s ∈ vs → s = ⟨#[]⟩) : NoTx W Q := fun k s hc => by
  unfold Blk at h
  have hc' : vs[k]? = some (.string s) := by simpa [World.cell?, h] using hc
  exact hv s (List.mem_of_getElem? hc')
theorem Pv.past {W W' : World} {v : Value} {l : List Rat} (h : Pv W v l) {Q : Nat} (hq : NoTx W Q) (he : ∀ k, k < W.heap.size → k ≠ Q → W'.heap[k]? = W.heap[k]?) : Pv W' v l := by
  obtain ⟨A, c, hv, hc, hm, hx⟩ := h
  refine ⟨A, c, hv, hc, hm, fun h0 => ?_⟩
  obtain ⟨b, o, hA, hy⟩ := hx h0
  have hne : b ≠ Q := fun e => by
    have h1 := (hy 0 h0).1
    rw [e] at h1
    exact num_ne (hm.2 0) (hq _ _ h1)
  have hb : W'.heap[b]? = W.heap[b]? := he b (cell_lt (hy 0 h0).1) hne
  exact ⟨b, o, hA, fun j hj => ⟨(World.cell?_of_block (w := W) (a := ⟨b, o + j * 2, none⟩) hb).trans (hy j hj).1, (World.cell?_of_block (w := W) (a := ⟨b, o + j * 2 + 1, none⟩) hb).trans (hy j hj).2⟩⟩
theorem Cv.past {W W' : World} {c : Value} {ls : List (List Rat)} (h : Cv W c ls) {Q : Nat} (hq : NoTx W Q) (he : ∀ k, k < W.heap.size → k ≠ Q → W'.heap[k]? = W.heap[k]?) (ho : c.ownBlock ≠ some Q) : Cv W' c ls := by
  obtain ⟨hm, g, n, rfl, hy⟩ := h
  refine ⟨hm, g, n, rfl, fun j hj => ?_⟩
  obtain ⟨u, h1, h2⟩ := hy j hj
  have hg : g ≠ Q := fun e => ho (by rw [← e]; rfl)
  exact ⟨u, (World.cell?_of_block (w := W) (a := ⟨g, j, none⟩) (he g (cell_lt h1) hg)).trans h1, h2.past hq he⟩
theorem cell_skip {W : World} {a : Addr} {v : Value} {Q j : Nat} {u : Value} (h : W.cell? a = some v) (hne : a.block ≠ Q) : (W.setCell ⟨Q, j, none⟩ u).cell? a = some v :=
  (World.cell?_of_block (w := W) (a := a) (Below.heap_setCell _ _ _ _ hne)).trans h
set_option maxHeartbeats 4000000 in
set_option maxRecDepth 100000 in
theorem spanned_any {v : Value} {p : List Rat} {ls : List (List Rat)} {lo hi : Rat} (w : World) (hv : Pv w v p) (h0 : 0 < p.length) (hp : p.length ≤ 13) (hlo : Pe ls lo) (hhi : Pe ls hi) (hle : lo ≤ hi) (hs : sturmO p = some ls) (hL : Laid w) :
    Calls Tryz.prog 50 #[v, .agg #[.string (numT (some lo)), .string (denT (some lo))], .agg #[.string (numT (some hi)), .string (denT (some hi))]] w (RetSp w ls lo hi) := by
  have HV := Lib.hid hv
  have HL0 := Lib.hid hL
  have M := Lib.hid (fun w => must_true w)
  have CV : Hid (∀ (x : Rat) (w : World), Pe ls x → Laid w → Calls Tryz.prog 63 #[.agg #[.string (numT (some x)), .string (denT (some x))]] w (RetB w true)) := Lib.hid (fun x w hx hL => by
    have := qvalid_any (numT (some x)) (denT (some x)) w hL
    rwa [fit_ok hx.1] at this)
  have hcm := cmp_le hle
  have CC := Lib.hid (fun w hL => cmp_r (rat_tx hlo.1) (rat_tx hhi.1) (c := cmpO (some lo) (some hi)) rfl w hL)
  have CO := Lib.hid (fun (Bp : Nat) (u : Value) (w : World) (hBp : w.cell? ⟨Bp, 0, none⟩ = some u) (hu : Pv w u p) (hL : Laid w) => collect_any w hBp hu hp hs hL)
  have CS := Lib.hid (fun (A : Option Addr) (n c : Nat) (w : World) => @sturm_any A n c w)
  have CA : Hid (∀ (c : Value) (w : World), Cv w c ls → Laid w → Calls Tryz.prog 59 #[c, .agg #[.string (numT (some lo)), .string (denT (some lo))]] w (fun e w' => e = .returned (.agg #[.string (numT (some lo)), .string (denT (some lo)), .int .i64 (varL ls lo : Nat), .bool (rootL ls lo)]) ∧ Below w.heap.size w w')) := Lib.hid (fun c w hc hL => chat_any w hc hlo hL)
  have CB : Hid (∀ (c : Value) (w : World), Cv w c ls → Laid w → Calls Tryz.prog 59 #[c, .agg #[.string (numT (some hi)), .string (denT (some hi))]] w (fun e w' => e = .returned (.agg #[.string (numT (some hi)), .string (denT (some hi)), .int .i64 (varL ls hi : Nat), .bool (rootL ls hi)]) ∧ Below w.heap.size w w')) := Lib.hid (fun c w hc hL => chat_any w hc hhi hL)
  have HLO := Lib.hid hlo
  have HHI := Lib.hid hhi
  have hpi : (p.length : Int) > 0 := by omega
  have hmixed : Tryz.prog.follows .mixedOrders = true := by kernel_rfl
  obtain ⟨A, c, rfl, -, -, -⟩ := hv
  unfold RetSp spanV
  generalize cmpO (some lo) (some hi) = q at *
  generalize varL ls lo = vlo at *
  generalize varL ls hi = vhi at *
  generalize rootL ls lo = rlo at *
  generalize rootL ls hi = rhi at *
  clear hlo hhi hle hs hL h0
  have hB := below_up (below_up (below1 w (.cells #[.string (numT (some lo)), .string (denT (some lo))] 29)) (below1 _ (.cells #[.string (numT (some hi)), .string (denT (some hi))] 29))) (below1 _ (.cells #[.slice none 0 0, .string ⟨#[]⟩, .string ⟨#[]⟩, .int .i64 0, .bool false, .string ⟨#[]⟩, .string ⟨#[]⟩, .int .i64 0, .bool false] 100))
  have Bl := ((Blk.new w 29 [.string (numT (some lo)), .string (denT (some lo))]).alloc (.cells #[.string (numT (some hi)), .string (denT (some hi))] 29)).alloc (.cells #[.slice none 0 0, .string ⟨#[]⟩, .string ⟨#[]⟩, .int .i64 0, .bool false, .string ⟨#[]⟩, .string ⟨#[]⟩, .int .i64 0, .bool false] 100)
  have Bh := (Blk.new2 w (.cells #[.string (numT (some lo)), .string (denT (some lo))] 29) 29 [.string (numT (some hi)), .string (denT (some hi))]).alloc (.cells #[.slice none 0 0, .string ⟨#[]⟩, .string ⟨#[]⟩, .int .i64 0, .bool false, .string ⟨#[]⟩, .string ⟨#[]⟩, .int .i64 0, .bool false] 100)
  have Bz := Blk.new3 w (.cells #[.string (numT (some lo)), .string (denT (some lo))] 29) (.cells #[.string (numT (some hi)), .string (denT (some hi))] 29) 100 [.slice none 0 0, .string ⟨#[]⟩, .string ⟨#[]⟩, .int .i64 0, .bool false, .string ⟨#[]⟩, .string ⟨#[]⟩, .int .i64 0, .bool false]
  go_enter Tryz.func50, Tryz.ntmps50
  go_wp2_with (first
    | (go_at_call 63; (with_reducible refine (CV.out lo _ HLO.out (HL0.out.below hB)).mono ?_); rintro e w1 ⟨rfl, hb⟩; replace hB := below_up hB hb; replace Bl := Bl.below hb; replace Bh := Bh.below hb; replace Bz := Bz.below hb; clear hb; have l0 := Bl.cell 0 (v := .string (numT (some lo))) rfl; have l1 := Bl.cell 1 (v := .string (denT (some lo))) rfl; have i0 := Bh.cell 0 (v := .string (numT (some hi))) rfl; have i1 := Bh.cell 1 (v := .string (denT (some hi))) rfl)
    | (go_at_call 63; (with_reducible refine (CV.out hi _ HHI.out (HL0.out.below hB)).mono ?_); rintro e w2 ⟨rfl, hb⟩; replace hB := below_up hB hb; replace Bl := Bl.below hb; replace Bh := Bh.below hb; replace Bz := Bz.below hb; clear hb; have l0 := Bl.cell 0 (v := .string (numT (some lo))) rfl; have l1 := Bl.cell 1 (v := .string (denT (some lo))) rfl; have i0 := Bh.cell 0 (v := .string (numT (some hi))) rfl; have i1 := Bh.cell 1 (v := .string (denT (some hi))) rfl)
    | (go_at_call 17; (with_reducible refine (CC.out _ (HL0.out.below hB)).mono ?_); rintro e w3 ⟨rfl, hb⟩; replace hB := below_up hB hb; replace Bl := Bl.below hb; replace Bh := Bh.below hb; replace Bz := Bz.below hb; clear hb)
    | (go_at_call 53; (with_reducible refine (M.out _).mono ?_); rintro e w' ⟨rfl, hw⟩; rw [hw]; clear hw)
    | (go_at_call 150; (with_reducible refine (CS.out _ _ _ _).mono ?_); rintro e w4 ⟨rfl, rfl⟩; have HW3 := Lib.hid (Blk.lt Bz); have hbs := below1 w3 (.cells #[.slice A p.length c] 119); have HB4 := Lib.hid ((Blk.new w3 119 [.slice A p.length c]).cell 0 (v := .slice A p.length c) rfl))
    | (go_at_call 149; (with_reducible refine (CO.out _ _ _ HB4.out (HV.out.below (below_up hB hbs)) (HL0.out.below (below_up hB hbs))).mono ?_); rintro e w5 ⟨ch, rfl, hch, hb, how⟩; have HOW := Lib.hid how; clear how; replace hb := below_up hbs hb; replace hB := below_up hB hb; replace Bl := Bl.below hb; replace Bh := Bh.below hb; replace Bz := Bz.below hb))
  have HCH := Lib.hid hch
  obtain ⟨-, gc, cc, rfl, -⟩ := hch
  have hZ : Below w5.heap.size w5 w5.drew := (Below.refl _ _).drew
  have Bl := Bl.below hZ
  have Bh := Bh.below hZ
  have Bz := Bz.below hZ
  have hB := below_up hB hZ
  have l0 := Bl.cell 0 (v := .string (numT (some lo))) rfl
  have l1 := Bl.cell 1 (v := .string (denT (some lo))) rfl
  have i0 := Bh.cell 0 (v := .string (numT (some hi))) rfl
  have i1 := Bh.cell 1 (v := .string (denT (some hi))) rfl
  have n1 : w.heap.size ≠ w.heap.size + 1 + 1 := by omega
  have n2 : w.heap.size + 1 + 1 ≠ w.heap.size := by omega
  have n3 : w.heap.size + 1 + 1 ≠ w.heap.size + 1 := by omega
  go_region_held3 (fun w' => w'.cell? ⟨w.heap.size, 0, none⟩ = some (.string (numT (some lo))) ∧ w'.cell? ⟨w.heap.size, 1, none⟩ = some (.string (denT (some lo))) ∧ w'.cell? ⟨w.heap.size + 1, 0, none⟩ = some (.string (numT (some hi))) ∧ w'.cell? ⟨w.heap.size + 1, 1, none⟩ = some (.string (denT (some hi)))) (go_keep) (first
    | (go_at_call 59; (with_reducible refine (CA.out _ _ (HCH.out.below hZ) (HL0.out.below hB)).mono ?_); rintro e wN ⟨rfl, hb⟩; have hZ := below_up hZ hb; have hB := below_up hB hb; have Bl := Bl.below hb; have Bh := Bh.below hb; have Bz := Bz.below hb; have l0 := Bl.cell 0 (v := .string (numT (some lo))) rfl; have l1 := Bl.cell 1 (v := .string (denT (some lo))) rfl; have i0 := Bh.cell 0 (v := .string (numT (some hi))) rfl; have i1 := Bh.cell 1 (v := .string (denT (some hi))) rfl)
    | (go_at_call 59; (with_reducible refine (CB.out _ _ (HCH.out.below hZ) (HL0.out.below hB)).mono ?_); rintro e wN ⟨rfl, hb⟩; have hZ := below_up hZ hb; have hB := below_up hB hb; have Bl := Bl.below hb; have Bh := Bh.below hb; have Bz := Bz.below hb; have l0 := Bl.cell 0 (v := .string (numT (some lo))) rfl; have l1 := Bl.cell 1 (v := .string (denT (some lo))) rfl; have i0 := Bh.cell 0 (v := .string (numT (some hi))) rfl; have i1 := Bh.cell 1 (v := .string (denT (some hi))) rfl; have z0 := Bz.cell 0 (v := .slice none 0 0) rfl; have f0 := Bz.frozen 0; have z1 := Bz.cell 1 (v := .string ⟨#[]⟩) rfl; have f1 := Bz.frozen 1; have z2 := Bz.cell 2 (v := .string ⟨#[]⟩) rfl; have f2 := Bz.frozen 2; have z3 := Bz.cell 3 (v := .int .i64 0) rfl; have f3 := Bz.frozen 3; have z4 := Bz.cell 4 (v := .bool false) rfl; have f4 := Bz.frozen 4; have z5 := Bz.cell 5 (v := .string ⟨#[]⟩) rfl; have f5 := Bz.frozen 5; have z6 := Bz.cell 6 (v := .string ⟨#[]⟩) rfl; have f6 := Bz.frozen 6; have z7 := Bz.cell 7 (v := .int .i64 0) rfl; have f7 := Bz.frozen 7; have z8 := Bz.cell 8 (v := .bool false) rfl; have f8 := Bz.frozen 8))
  have hnt : NoTx wN (w.heap.size + 1 + 1) := noTx_blk Bz (fun s hs => by simp at hs; exact hs)
  have HCN := Lib.hid ((HCH.out.below hZ))
  have hzl := Bz.lt
  have ZF := (((((((((Bz.set 0 (.slice (some ⟨gc, 0, none⟩) ls.length cc)).set 1 (.string (numT (some lo)))).set 2 (.string (denT (some lo)))).set 3 (.int .i64 vlo)).set 4 (.bool rlo)).set 5 (.string (numT (some hi)))).set 6 (.string (denT (some hi)))).set 7 (.int .i64 vhi)).set 8 (.bool rhi))
  have e0 := ZF.cell 0 (v := .slice (some ⟨gc, 0, none⟩) ls.length cc) rfl
  have e1 := ZF.cell 1 (v := .string (numT (some lo))) rfl
  have e2 := ZF.cell 2 (v := .string (denT (some lo))) rfl
  have e3 := ZF.cell 3 (v := .int .i64 vlo) rfl
  have e4 := ZF.cell 4 (v := .bool rlo) rfl
  have e5 := ZF.cell 5 (v := .string (numT (some hi))) rfl
  have e6 := ZF.cell 6 (v := .string (denT (some hi))) rfl
  have e7 := ZF.cell 7 (v := .int .i64 vhi) rfl
  have e8 := ZF.cell 8 (v := .bool rhi) rfl
  have hwz : w.heap.size ≤ w.heap.size + 1 + 1 := by omega
  clear n1 n2 n3
  go_wp2
  refine bodyPost_ret (v := .agg #[.slice (some ⟨gc, 0, none⟩) ls.length cc, .string (numT (some lo)), .string (denT (some lo)), .int .i64 vlo, .bool rlo, .string (numT (some hi)), .string (denT (some hi)), .int .i64 vhi, .bool rhi]) (by simp [results, Tryz.results50, go_sem, e0, e1, e2, e3, e4, e5, e6, e7, e8]) rfl ⟨_, rfl, HCN.out.past hnt (fun k _ hk => ?_) (fun e => ?_), (((((((((hB.setCell hwz _).setCell hwz _).setCell hwz _).setCell hwz _).setCell hwz _).setCell hwz _).setCell hwz _).setCell hwz _).setCell hwz _)⟩
  · repeat (rw [Below.heap_setCell _ _ _ _ hk])
  · have h1 := HOW.out _ e
    have h2 := HW3.out
    rw [World.size_alloc] at h1
    omega

end Go.Proofs.YtffndcjmabjhiaaGreatDoor

namespace Go.Proofs.YtffndcjmabjhiaaGreatDoor
open Go.RowKit Num
open Go.Shelf

theorem var_le (ls : List (List Rat)) (x : Rat) : varL ls x ≤ ls.length := (seen_bd ls x ls.length (Nat.le_refl _)).1
set_option maxHeartbeats 2000000 in
set_option maxRecDepth 100000 in
theorem cl_count {v : Value} {p : List Rat} {ls : List (List Rat)} {lo hi : Rat} {B2 B3 B4 : Nat} (W : World) (h2 : W.cell? ⟨B2, 0, none⟩ = some v) (h3 : Blk W B3 29 [.string (numT (some lo)), .string (denT (some lo))]) (h4 : Blk W B4 29 [.string (numT (some hi)), .string (denT (some hi))])
    (hv : Pv W v p) (h0 : 0 < p.length) (hp : p.length ≤ 13) (hlo : Pe ls lo) (hhi : Pe ls hi) (hle : lo ≤ hi) (hs : sturmO p = some ls) (hL : Laid W) :
    Calls Tryz.prog 49 #[.pointer (some ⟨B2, 0, none⟩), .pointer (some ⟨B3, 0, none⟩), .pointer (some ⟨B4, 0, none⟩)] W (RetI W ((varL ls lo : Int) - (varL ls hi : Int))) := by
  have CS : Hid (Calls Tryz.prog 50 #[v, .agg #[.string (numT (some lo)), .string (denT (some lo))], .agg #[.string (numT (some hi)), .string (denT (some hi))]] W (fun e w' => ∃ c, e = .returned (.agg #[c, .string (numT (some lo)), .string (denT (some lo)), .int .i64 (varL ls lo : Nat), .bool (rootL ls lo), .string (numT (some hi)), .string (denT (some hi)), .int .i64 (varL ls hi : Nat), .bool (rootL ls hi)]) ∧ Cv w' c ls ∧ Below W.heap.size W w')) :=
    Lib.hid (spanned_any W hv h0 hp hlo hhi hle hs hL)
  have hl := (sturm_len hs).2
  have hv1 := var_le ls lo
  have hv2 := var_le ls hi
  have k0 := h3.cell 0 (v := .string (numT (some lo))) rfl
  have k1 := h3.cell 1 (v := .string (denT (some lo))) rfl
  have i0 := h4.cell 0 (v := .string (numT (some hi))) rfl
  have i1 := h4.cell 1 (v := .string (denT (some hi))) rfl
  obtain ⟨A, c, rfl, -, -, -⟩ := hv
  generalize varL ls lo = vlo at *
  generalize varL ls hi = vhi at *
  generalize rootL ls lo = rlo at *
  generalize rootL ls hi = rhi at *
  have hw : IntKind.i64.wrap ((vlo : Int) - (vhi : Int)) = (vlo : Int) - (vhi : Int) := IntWalk.i64_in _ (by omega)
  clear hlo hhi hle hs hL h0
  go_enter Tryz.func49, Tryz.ntmps49
  go_wp2_with (go_at_call 50; (with_reducible refine CS.out.mono ?_); rintro e w1 ⟨ch, rfl, hch, hb⟩; obtain ⟨-, gc, cc, rfl, -⟩ := hch)
  go_ret
  exact ⟨rfl, below_up hb (below1 _ _)⟩

set_option maxHeartbeats 2000000 in
set_option maxRecDepth 100000 in
theorem spanned_fail {A : Option Addr} {c : Nat} {x y u v : ByteArray} (w : World) : Calls Tryz.prog 50 #[.slice A 0 c, .agg #[.string x, .string y], .agg #[.string u, .string v]] w (RetF w) := by
  have M := Lib.hid (fun w => must_false w)
  have hB := below_up (below_up (below1 w (.cells #[.string x, .string y] 29)) (below1 _ (.cells #[.string u, .string v] 29))) (below1 _ (.cells #[.slice none 0 0, .string ⟨#[]⟩, .string ⟨#[]⟩, .int .i64 0, .bool false, .string ⟨#[]⟩, .string ⟨#[]⟩, .int .i64 0, .bool false] 100))
  go_enter Tryz.func50, Tryz.ntmps50
  go_wp2_with (go_at_call 53; refine (M.out _).mono ?_; rintro e w' ⟨rfl, hw⟩; rw [hw]; clear hw)
  exact ⟨rfl, rfl, hB⟩
set_option maxRecDepth 100000 in
theorem cl_count_fail {A : Option Addr} {c : Nat} {x y u v : ByteArray} {B2 B3 B4 : Nat} (W : World) (h2 : W.cell? ⟨B2, 0, none⟩ = some (.slice A 0 c)) (h3 : Blk W B3 29 [.string x, .string y]) (h4 : Blk W B4 29 [.string u, .string v]) :
    Calls Tryz.prog 49 #[.pointer (some ⟨B2, 0, none⟩), .pointer (some ⟨B3, 0, none⟩), .pointer (some ⟨B4, 0, none⟩)] W (RetF W) := by
  have C := Lib.hid (spanned_fail (A := A) (c := c) (x := x) (y := y) (u := u) (v := v) W)
  have k0 := h3.cell 0 (v := .string x) rfl
  have k1 := h3.cell 1 (v := .string y) rfl
  have i0 := h4.cell 0 (v := .string u) rfl
  have i1 := h4.cell 1 (v := .string v) rfl
  go_enter Tryz.func49, Tryz.ntmps49
  go_wp2_with (go_at_call 50; (with_reducible refine C.out.mono ?_); rintro e w1 ⟨rfl, hb⟩)
  exact ⟨rfl, rfl, hb⟩

set_option maxHeartbeats 2000000 in
set_option maxRecDepth 100000 in
theorem try_i {G : FuncId} {caps : Array Value} {r : Int} {gl n : Nat} (w : World) (eg : ∀ args w, (callFunc G args).run Tryz.prog w = .ok (.enter G args) w) (hn : n ≤ 1000) (hv : AllV w gl n)
    (hf : ∀ W, Below w.heap.size w W → Calls Tryz.prog G caps W (RetI W r)) (hL : Laid w) :
    Calls Tryz.prog 48 #[.func (.func G) #[] caps, .slice (some ⟨gl, 0, none⟩) n n] w (fun e w' => e = .returned (.tuple #[.int .i64 r, .int .i64 0]) ∧ Below w.heap.size w w') := by
  have HV := Lib.hid hv
  have HL0 := Lib.hid hL
  have HF := Lib.hid hf
  have M := Lib.hid (fun w => must_true w)
  clear hv hf
  have b1 := below1 w (.cells #[.int .i64 0] 31)
  have Be := Blk.new w 31 [.int .i64 0]
  go_enter_defers Tryz.func48, Tryz.ntmps48
  go_wp2
  go_loopg [10] n (fun k s10 wr => ∃ i : Nat, s10 = .int .i64 i ∧ i ≤ n ∧ n ≤ k + i ∧ Blk wr w.heap.size 31 [.int .i64 0] ∧ Below w.heap.size w wr)
  case atStart => exact ⟨0, rfl, by omega, by omega, Be, b1⟩
  case round =>
    clear Be b1
    obtain ⟨i, rfl, hi, hk, Be, hB⟩ := hrel
    by_cases hg : i < n
    · have hgi : (i : Int) < n := by omega
      obtain ⟨v, l, hc, hp, hl, hnt⟩ := HV.out i hg
      have C := pvalid_any wr (hp.below hB) hl (HL0.out.below hB)
      rw [ntB_true hnt] at C
      have CV := Lib.hid C
      have k0 := (hB.cell (cell_lt hc)).trans hc
      clear C hc hp hl hnt
      go_wp2_with (first
        | (go_at_call 43; (with_reducible refine CV.out.mono ?_); rintro e w1 ⟨rfl, hb⟩; replace Be := Be.below hb; replace hB := below_up hB hb; clear hb)
        | (go_at_call 53; refine (M.out _).mono ?_; rintro e w' ⟨rfl, hw⟩; rw [hw]; clear hw))
      all_goals go_roundg (n - (i + 1))
      all_goals first | omega | exact ⟨i + 1, by go_num, by omega, by omega, Be, hB⟩
    · obtain rfl : i = n := by omega
      have HC := Lib.hid (HF.out wr hB)
      go_wp2_with (go_at_fn G; refine HC.out.mono ?_; rintro e w1 ⟨rfl, hb⟩; replace Be := Be.below hb; replace hB := below_up hB hb; clear hb; have e0 := Be.cell 0 (v := .int .i64 0) rfl; have f0 := Be.frozen 0)
      have Be2 := Be.set 0 (.int .i64 0)
      have e1 := Be2.cell 0 (v := .int .i64 0) rfl
      refine leaves_cons (f := 148) (args := #[.pointer (some ⟨w.heap.size, 0, none⟩)]) (by simp) (by simp [go_sem]) ?_
      refine (failed_idle ⟨w.heap.size, 0, none⟩ _).mono ?_
      rintro e u' w'' ⟨rfl, rfl, rfl⟩
      simp [Leaves, settle, results, Tryz.results48, go_sem, e1]
      exact hB.setCell (by dsimp; omega) _
set_option maxHeartbeats 2000000 in
set_option maxRecDepth 100000 in
theorem try_i_fail {G : FuncId} {caps : Array Value} {gl n : Nat} (w : World) (eg : ∀ args w, (callFunc G args).run Tryz.prog w = .ok (.enter G args) w) (hn : n ≤ 1000) (hv : AllV w gl n)
    (hf : ∀ W, Below w.heap.size w W → Calls Tryz.prog G caps W (RetF W)) (hL : Laid w) :
    Calls Tryz.prog 48 #[.func (.func G) #[] caps, .slice (some ⟨gl, 0, none⟩) n n] w (fun e w' => e = .returned (.tuple #[.int .i64 0, .int .i64 70]) ∧ Below w.heap.size w w') := by
  have HV := Lib.hid hv
  have HL0 := Lib.hid hL
  have HF := Lib.hid hf
  have M := Lib.hid (fun w => must_true w)
  clear hv hf
  have b1 := below1 w (.cells #[.int .i64 0] 31)
  have Be := Blk.new w 31 [.int .i64 0]
  go_enter_defers Tryz.func48, Tryz.ntmps48
  go_wp2
  go_loopg [10] n (fun k s10 wr => ∃ i : Nat, s10 = .int .i64 i ∧ i ≤ n ∧ n ≤ k + i ∧ Blk wr w.heap.size 31 [.int .i64 0] ∧ Below w.heap.size w wr)
  case atStart => exact ⟨0, rfl, by omega, by omega, Be, b1⟩
  case round =>
    clear Be b1
    obtain ⟨i, rfl, hi, hk, Be, hB⟩ := hrel
    by_cases hg : i < n
    · have hgi : (i : Int) < n := by omega
      obtain ⟨v, l, hc, hp, hl, hnt⟩ := HV.out i hg
      have C := pvalid_any wr (hp.below hB) hl (HL0.out.below hB)
      rw [ntB_true hnt] at C
      have CV := Lib.hid C
      have k0 := (hB.cell (cell_lt hc)).trans hc
      clear C hc hp hl hnt
      go_wp2_with (first
        | (go_at_call 43; (with_reducible refine CV.out.mono ?_); rintro e w1 ⟨rfl, hb⟩; replace Be := Be.below hb; replace hB := below_up hB hb; clear hb)
        | (go_at_call 53; refine (M.out _).mono ?_; rintro e w' ⟨rfl, hw⟩; rw [hw]; clear hw))
      all_goals go_roundg (n - (i + 1))
      all_goals first | omega | exact ⟨i + 1, by go_num, by omega, by omega, Be, hB⟩
    · obtain rfl : i = n := by omega
      have HC := Lib.hid (HF.out wr hB)
      go_wp2_with (go_at_fn G; refine HC.out.mono ?_; rintro e w1 ⟨rfl, hb⟩; replace Be := Be.below hb; replace hB := below_up hB hb; clear hb; have e0 := Be.cell 0 (v := .int .i64 0) rfl; have f0 := Be.frozen 0)
      have hbl := below1 w1 (.cells #[] 197)
      have Be2 := (Be.below hbl).set 0 (.int .i64 70)
      have e1 := Be2.cell 0 (v := .int .i64 70) rfl
      refine leaves_cons (f := 148) (args := #[.pointer (some ⟨w.heap.size, 0, none⟩)]) (by simp) (by simp [go_sem]) ?_
      refine (failed_caught w.heap.size (.int .i64 0) [] w1 e0 f0).mono ?_
      rintro e u' w'' ⟨rfl, rfl, rfl⟩
      simp [Leaves, settle, results, Tryz.results48, go_sem, e1]
      exact (below_up hB hbl).setCell (by dsimp; omega) _

end Go.Proofs.YtffndcjmabjhiaaGreatDoor

namespace Go.Proofs.YtffndcjmabjhiaaGreatDoor
open Go.RowKit Num
open Go.Shelf

theorem Blk.new4 (w : World) (o o' o'' : Obj) (T : TypeId) (vs : List Value) : Blk ((((w.alloc o).alloc o').alloc o'').alloc (.cells vs.toArray T)) (w.heap.size + 1 + 1 + 1) T vs := by
  have h := Blk.new3 (w.alloc o) o' o'' T vs
  rwa [World.size_alloc] at h
set_option maxHeartbeats 1000000 in
set_option maxRecDepth 100000 in
theorem api_count {v : Value} {p : List Rat} {ls : List (List Rat)} {lo hi : Rat} (w : World) (hv : Pv w v p) (hp : Vp p) (h0 : 0 < p.length) (hlo : Pe ls lo) (hhi : Pe ls hi) (hle : lo ≤ hi) (hs : sturmO p = some ls) (hL : Laid w) :
    Calls Tryz.prog 15 #[v, .agg #[.string (numT (some lo)), .string (denT (some lo))], .agg #[.string (numT (some hi)), .string (denT (some hi))]] w (fun e w' => e = .returned (.tuple #[.int .i64 ((varL ls lo : Int) - (varL ls hi : Int)), .int .i64 0]) ∧ Below w.heap.size w w') := by
  have HV := Lib.hid hv
  have hmf : ∀ (fn : Fn) (first cap : Array Value) (w : World), (Instr.makeFunc fn first cap).run Tryz.prog w = .ok (.func fn first cap) w := fun _ _ _ _ => rfl
  obtain ⟨A, c, rfl, -, -, -⟩ := hv
  obtain ⟨w4, hw4⟩ : ∃ w4, (((w.alloc (.cells #[.slice A p.length c] 24)).alloc (.cells #[.string (numT (some lo)), .string (denT (some lo))] 29)).alloc (.cells #[.string (numT (some hi)), .string (denT (some hi))] 29)).alloc (.cells #[.slice A p.length c] 119) = w4 := ⟨_, rfl⟩
  have hb4 : Below w.heap.size w w4 := by rw [← hw4]; exact below_up (below_up (below_up (below1 _ _) (below1 _ _)) (below1 _ _)) (below1 _ _)
  have B2 : Blk w4 w.heap.size 24 [.slice A p.length c] := by rw [← hw4]; exact (((Blk.new w _ _).alloc _).alloc _).alloc _
  have B3 : Blk w4 (w.heap.size + 1) 29 [.string (numT (some lo)), .string (denT (some lo))] := by rw [← hw4]; exact ((Blk.new2 w _ _ _).alloc _).alloc _
  have B4 : Blk w4 (w.heap.size + 1 + 1) 29 [.string (numT (some hi)), .string (denT (some hi))] := by rw [← hw4]; exact (Blk.new3 w _ _ _ _).alloc _
  have B5 : Blk w4 (w.heap.size + 1 + 1 + 1) 119 [.slice A p.length c] := by
    rw [← hw4]
    exact Blk.new4 w _ _ _ _ _
  have hall : AllV w4 (w.heap.size + 1 + 1 + 1) 1 := fun i hi => by
    obtain rfl : i = 0 := by omega
    exact ⟨_, p, B5.cell 0 rfl, HV.out.below hb4, hp.1, hp.2.1⟩
  have CT := Lib.hid (try_i (G := 49) (caps := #[.pointer (some ⟨w.heap.size, 0, none⟩), .pointer (some ⟨w.heap.size + 1, 0, none⟩), .pointer (some ⟨w.heap.size + 1 + 1, 0, none⟩)]) w4 (enters_of Tryz.func49 (by kernel_rfl) rfl) (by omega) hall
    (fun W hb => cl_count W ((B2.below hb).cell 0 rfl) (B3.below hb) (B4.below hb) (HV.out.below (below_up hb4 hb)) h0 hp.1 hlo hhi hle hs (hL.below (below_up hb4 hb))) (hL.below hb4))
  have HB4 := Lib.hid hb4
  clear B2 B3 B4 B5 hall hp hb4
  generalize (varL ls lo : Int) - (varL ls hi : Int) = dv at *
  clear hlo hhi hle hs
  subst hw4
  go_enter Tryz.func15, Tryz.ntmps15
  go_wp2_with (go_at_call 48; (with_reducible refine CT.out.mono ?_); rintro e w1 ⟨rfl, hb⟩)
  go_ret2
  exact ⟨rfl, below_up HB4.out hb⟩

set_option maxHeartbeats 1000000 in
set_option maxRecDepth 100000 in
theorem api_count_fail {v : Value} {x y u z : ByteArray} (w : World) (hv : Pv w v []) (hL : Laid w) :
    Calls Tryz.prog 15 #[v, .agg #[.string x, .string y], .agg #[.string u, .string z]] w (fun e w' => e = .returned (.tuple #[.int .i64 0, .int .i64 70]) ∧ Below w.heap.size w w') := by
  have HV := Lib.hid hv
  have hmf : ∀ (fn : Fn) (first cap : Array Value) (w : World), (Instr.makeFunc fn first cap).run Tryz.prog w = .ok (.func fn first cap) w := fun _ _ _ _ => rfl
  obtain ⟨A, c, rfl, -, -, -⟩ := hv
  obtain ⟨w4, hw4⟩ : ∃ w4, (((w.alloc (.cells #[.slice A 0 c] 24)).alloc (.cells #[.string x, .string y] 29)).alloc (.cells #[.string u, .string z] 29)).alloc (.cells #[.slice A 0 c] 119) = w4 := ⟨_, rfl⟩
  have hb4 : Below w.heap.size w w4 := by rw [← hw4]; exact below_up (below_up (below_up (below1 _ _) (below1 _ _)) (below1 _ _)) (below1 _ _)
  have B2 : Blk w4 w.heap.size 24 [.slice A 0 c] := by rw [← hw4]; exact (((Blk.new w _ _).alloc _).alloc _).alloc _
  have B3 : Blk w4 (w.heap.size + 1) 29 [.string x, .string y] := by rw [← hw4]; exact ((Blk.new2 w _ _ _).alloc _).alloc _
  have B4 : Blk w4 (w.heap.size + 1 + 1) 29 [.string u, .string z] := by rw [← hw4]; exact (Blk.new3 w _ _ _ _).alloc _
  have B5 : Blk w4 (w.heap.size + 1 + 1 + 1) 119 [.slice A 0 c] := by
    rw [← hw4]
    exact Blk.new4 w _ _ _ _ _
  have hall : AllV w4 (w.heap.size + 1 + 1 + 1) 1 := fun i hi => by
    obtain rfl : i = 0 := by omega
    exact ⟨_, [], B5.cell 0 rfl, HV.out.below hb4, by decide, NT.nil⟩
  have CT := Lib.hid (try_i_fail (G := 49) (caps := #[.pointer (some ⟨w.heap.size, 0, none⟩), .pointer (some ⟨w.heap.size + 1, 0, none⟩), .pointer (some ⟨w.heap.size + 1 + 1, 0, none⟩)]) w4 (enters_of Tryz.func49 (by kernel_rfl) rfl) (by omega) hall
    (fun W hb => cl_count_fail W ((B2.below hb).cell 0 rfl) (B3.below hb) (B4.below hb)) (hL.below hb4))
  have HB4 := Lib.hid hb4
  clear B2 B3 B4 B5 hall hb4
  subst hw4
  go_enter Tryz.func15, Tryz.ntmps15
  go_wp2_with (go_at_call 48; (with_reducible refine CT.out.mono ?_); rintro e w1 ⟨rfl, hb⟩)
  go_ret2
  exact ⟨rfl, below_up HB4.out hb⟩

end Go.Proofs.YtffndcjmabjhiaaGreatDoor
