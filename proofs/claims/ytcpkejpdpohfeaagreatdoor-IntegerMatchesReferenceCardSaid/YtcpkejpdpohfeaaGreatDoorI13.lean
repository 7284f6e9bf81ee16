/- The walk of package integer's 'parse'. Conditions: the text is valid. -/
import Derived.Test.YtcpkejpdpohfeaaGreatDoorI12
import Derived.Lib.IndexBytes
import Derived.Lib.AtoiErrMem
namespace Go.Proofs.YtcpkejpdpohfeaaGreatDoor
open Go.RowKit Num
open Go.Shelf

theorem own_below {w w' : World} {B : Nat} {e : TypeId} {k n : Nat} {v : Value} {xs : List Value} (h : w.ownsRow B e k v n xs) (hb : Below w.heap.size w w') : w'.ownsRow B e k v n xs := by
  refine ⟨h.1, ?_⟩
  rcases h.2 with h4 | ⟨g, cap, cur, h5, h6, h7, h8⟩
  · exact .inl h4
  · exact .inr ⟨g, cap, cur, h5, h6, (hb.block g (Array.getElem?_eq_some_iff.1 h7).1).trans h7, h8⟩
theorem own_set {w : World} {B : Nat} {e : TypeId} {k n : Nat} {v : Value} {xs : List Value} (h : w.ownsRow B e k v n xs) (b o : Nat) (hb : b < B) (u : Value) : (w.setCell ⟨b, o, none⟩ u).ownsRow B e k v n xs := by
  refine ⟨h.1, ?_⟩
  rcases h.2 with h4 | ⟨g, cap, cur, h5, h6, h7, h8⟩
  · exact .inl h4
  · exact .inr ⟨g, cap, cur, h5, h6, ((Turn.setCell (X := [b]) w b o u (by simp)).block g (Array.getElem?_eq_some_iff.1 h7).1 (by simp; omega)).trans h7, h8⟩

/-- A struct of a sign and a number lies in block B. -/
def SBox (W : World) (B : Nat) (neg : Bool) (v : Value) : Prop := W.heap[B]? = some (.cells #[.bool neg, v] 50 (0, 0))
theorem SBox.lt {W : World} {B : Nat} {neg : Bool} {v : Value} (h : SBox W B neg v) : B < W.heap.size := (Array.getElem?_eq_some_iff.1 h).1
theorem SBox.cell0 {W : World} {B : Nat} {neg : Bool} {v : Value} (h : SBox W B neg v) : W.cell? ⟨B, 0, none⟩ = some (.bool neg) := by simp [World.cell?, show W.heap[B]? = _ from h]
theorem SBox.cell1 {W : World} {B : Nat} {neg : Bool} {v : Value} (h : SBox W B neg v) : W.cell? ⟨B, 1, none⟩ = some v := by simp [World.cell?, show W.heap[B]? = _ from h]
theorem SBox.frozen {W : World} {B : Nat} {neg : Bool} {v : Value} (h : SBox W B neg v) (o : Nat) : W.frozen? ⟨B, o, none⟩ = false := by simp [World.frozen?, show W.heap[B]? = _ from h]
theorem SBox.below {W W' : World} {B : Nat} {neg : Bool} {v : Value} (h : SBox W B neg v) {n : Nat} (hb : Below n W W') (hn : B < n) : SBox W' B neg v := (hb.block B hn).trans h
theorem SBox.other {W : World} {B : Nat} {neg : Bool} {v : Value} (h : SBox W B neg v) {b : Nat} (hne : B ≠ b) (o : Nat) (u : Value) : SBox (W.setCell ⟨b, o, none⟩ u) B neg v :=
  ((Turn.setCell (X := [b]) W b o u (by simp)).block B h.lt (by simp [hne])).trans h
theorem SBox.set {W : World} {B : Nat} {neg : Bool} {v : Value} (h : SBox W B neg v) (u : Value) : SBox (W.setCell ⟨B, 1, none⟩ u) B neg u := by
  have h' : W.heap[B]? = _ := h
  obtain ⟨hq, he⟩ := Array.getElem?_eq_some_iff.1 h'
  unfold SBox World.setCell
  simp [hq]
  rw [Array.getElem_modify_self, he]
  simp

theorem SBox.set0 {W : World} {B : Nat} {neg : Bool} {v : Value} (h : SBox W B neg v) (n : Bool) : SBox (W.setCell ⟨B, 0, none⟩ (.bool n)) B n v := by
  have h' : W.heap[B]? = _ := h
  obtain ⟨hq, he⟩ := Array.getElem?_eq_some_iff.1 h'
  unfold SBox World.setCell
  simp [hq]
  rw [Array.getElem_modify_self, he]
  simp
theorem Rd.set_sbox {W : World} {B : Nat} {neg : Bool} {A : Option Addr} {n c : Nat} (hb : SBox W B neg (.slice A n c)) {v : Value} {xs : List Int} (hr : Rd W v xs) (o : Nat) (u : Value) : Rd (W.setCell ⟨B, o, none⟩ u) v xs := by
  refine (Turn.setCell (X := [B]) W B o u (by simp)).rd hr ?_
  intro k hk hrow
  rw [List.mem_singleton] at hk
  subst hk
  obtain ⟨A', c', rfl, _, _, hx⟩ := hr
  unfold rowOf at hrow
  split at hrow
  · cases hrow
  · rename_i hne
    obtain ⟨b, q, rfl, hy⟩ := hx (List.length_pos_iff.2 hne)
    simp only [Value.ownBlock, Option.some.injEq] at hrow
    subst hrow
    have h0 := hy 0 (List.length_pos_iff.2 hne)
    have h1 : W.cell? ⟨b, q + 0, none⟩ = #[Value.bool neg, .slice A n c][q + 0]? := by simp [World.cell?, show W.heap[b]? = _ from hb]
    rw [h1] at h0
    match q, h0 with
    | 0, h0 => simp at h0
    | 1, h0 => simp at h0
    | k + 2, h0 => simp at h0

theorem atoi_any (p : ByteArray) (hn : p.data.toList ≠ []) (ha : p.data.toList.all isD = true) (hl : p.data.toList.length ≤ 4) (w : World) :
    Calls Tryz.prog 57 #[.string p] w fun e w' => e = .returned (.tuple #[.int .i64 (dval p.data.toList), .nilIface]) ∧ Below w.heap.size w w' := by
  refine (Tryz.strconv_Atoi_ok p (by have : p.size = p.data.toList.length := rfl; omega) _ (atoi_digits hn ha (by omega)) w).mono ?_
  rintro e w' ⟨rfl, h⟩
  refine ⟨rfl, ?_⟩
  rcases h with rfl | ⟨t, rfl⟩
  · exact Below.refl _ _
  · exact Lib.bytesWorld_below _ _ _

/-- Facts of the text that is parsed. -/
theorem head_len (l : List UInt8) : decide ((body l).length < l.length) = decide (l.head? = some 45) := by
  unfold body
  cases l with
  | nil => simp
  | cons c r =>
    by_cases h : c = 45
    · subst h; simp
    · simp [h]
theorem upto_list (s : ByteArray) (k : Nat) : (s.extract 0 k).data.toList = s.data.toList.take k := by
  obtain ⟨⟨l⟩⟩ := s
  simp [ByteArray.data_extract]
theorem valid_parts {l : List UInt8} (h : validL l = true) : body l ≠ [] ∧ (body l).length ≤ 200 ∧ (body l).all isD = true := by
  unfold validL at h
  simp only [Bool.and_eq_true, decide_eq_true_eq] at h
  obtain ⟨⟨⟨h1, h2⟩, h3⟩, _⟩ := h
  exact ⟨by simpa using h1, h2, h3⟩

set_option maxHeartbeats 2000000 in
set_option maxRecDepth 100000 in
theorem parse_any (s : ByteArray) (w : World) (h : validL s.data.toList = true) :
    Calls Tryz.prog 59 #[.string s] w fun e w' => ∃ v, e = .returned (.agg #[.bool (decide (s.data.toList.head? = some 45)), v]) ∧ Rd w' v (dg 10000 (dval (body s.data.toList))) ∧ Below w.heap.size w w' := by
  obtain ⟨hD0, hD1, hD2⟩ := valid_parts h
  clear h
  obtain ⟨ds, hds⟩ : ∃ d : ByteArray, d = ⟨(body s.data.toList).toArray⟩ := ⟨_, rfl⟩
  have hlen := head_len s.data.toList
  have hz : ds.size = (body s.data.toList).length := by rw [hds]; simp [ByteArray.size]
  have hz' : s.size = s.data.toList.length := rfl
  rw [← hz, ← hz'] at hlen
  have TP := Lib.hid (trimp_any s)
  generalize body s.data.toList = D at *
  generalize decide (s.data.toList.head? = some 45) = neg at *
  have HDS := Lib.hid hds
  have HZ := Lib.hid hz
  have HD2 := Lib.hid hD2
  have HD0 := Lib.hid hD0
  have hdz : ds.size ≤ 200 := by omega
  have hP0 := Lib.hid (PI.start D)
  rw [← hz] at hP0
  have HT0 : Hid (ds.data.toList = D.take ds.size) := by
    have e : ds.data.toList = D := by rw [hds]
    rw [hz, List.take_length]; exact e
  clear hds hz hz' hD2 hD0
  go_enter Tryz.func59, Tryz.ntmps59
  go_wp2_with (go_at_call 73; (with_reducible refine (TP.out _).mono ?_); rintro e w1 ⟨⟨d, rfl, hd⟩, rfl⟩; obtain rfl : d = ds := hd.out.trans HDS.out.symm; clear hd)
  have hsb : SBox ((w.alloc (.cells #[.bool false, .slice none 0 0] 50)).alloc (.cells #[.bool neg, .slice none 0 0] 50)) (w.heap.size + 1) neg (.slice none 0 0) := by
    have := World.alloc_heap_new (w.alloc (.cells #[.bool false, .slice none 0 0] 50)) (.cells #[.bool neg, .slice none 0 0] 50)
    unfold SBox
    simpa using this
  have hsr : SBox ((w.alloc (.cells #[.bool false, .slice none 0 0] 50)).alloc (.cells #[.bool neg, .slice none 0 0] 50)) w.heap.size false (.slice none 0 0) :=
    ((below1 _ _).block _ (by simp)).trans (World.alloc_heap_new w (.cells #[.bool false, .slice none 0 0] 50))
  have HSB := Lib.hid hsb
  have HSR := Lib.hid hsr
  clear hsb hsr
  go_loopg [3] d.size (fun kx s3 wr => ∃ (m : Nat) (ds : ByteArray) (g : List Int) (v : Value), s3 = .string ds ∧ Hid (ds.data.toList = D.take m) ∧ Hid (ds.size = m) ∧ m ≤ 200 ∧ m ≤ kx ∧ Hid (PI D m g) ∧
    Hid (SBox wr (w.heap.size + 1) neg v) ∧ Hid (SBox wr w.heap.size false (.slice none 0 0)) ∧ wr.ownsRow (w.heap.size + 2) 3 1 v g.length (g.map (Value.int .i64)) ∧ Below w.heap.size w wr)
  case atStart => exact ⟨d.size, d, [], _, rfl, HT0, rfl, hdz, Nat.le_refl _, hP0, HSB, HSR, World.ownsRow_nil _ _ _ _, below2 _ _ _⟩
  case round =>
    obtain ⟨m, ds, g, v, rfl, hT, hsz, hm2, hmk, hPI, hsb, hsr, hown, hnx⟩ := hrel
    have HOWN := Lib.hid hown
    have hsz' := hsz.out
    subst hsz'
    clear hsz
    have hgl : g.length ≤ 200 := by have := hPI.out.len; omega
    have HR := Lib.hid (Rd.own hown (by omega))
    obtain ⟨A, c, rfl, -, -, -⟩ := HR.out
    clear hown
    have hc1 := hsb.out.cell1
    have hf1 := hsb.out.frozen 1
    rcases Nat.eq_zero_or_pos ds.size with h0 | h0
    · have hgt : ¬ (0 : Int) < (ds.size : Int) := by omega
      have hpd : (nv 10000 g).toNat = dval D := by
        have h := hPI.out
        rw [h0] at h
        rw [h.done]; rfl
      have TR := Lib.hid (trimmed_any _ g wr HR.out hPI.out.dig)
      rw [hpd] at TR
      clear h0 hpd
      go_wp2_with (go_at_call 65; (with_reducible refine TR.out.mono ?_); rintro e w2 ⟨v2, rfl, hr2, rfl⟩; obtain ⟨A2, c2, rfl, -⟩ := id hr2; have hS2 := hsb.out.set (.slice A2 (dg 10000 (dval D)).length c2); have hS0 := hsr.out.other (b := w.heap.size + 1) (by omega) 1 (.slice A2 (dg 10000 (dval D)).length c2); have hsc0 := hS2.cell0; have hsc1 := hS2.cell1; have hsd0 := hS0.cell0; have hsd1 := hS0.cell1; have hsf0 := hS0.frozen 0; have hsf1 := hS0.frozen 1)
      have hS3 := hS0.set0 neg
      have hS4 := hS3.set (.slice A2 (dg 10000 (dval D)).length c2)
      have hr4 := Rd.set_sbox hS3 (Rd.set_sbox hS0 (Rd.set_sbox hsb.out hr2 1 (.slice A2 (dg 10000 (dval D)).length c2)) 0 (.bool neg)) 1 (.slice A2 (dg 10000 (dval D)).length c2)
      have h40 := hS4.cell0
      have h41 := hS4.cell1
      have hT := ((Turn.setCell (X := [w.heap.size, w.heap.size + 1]) w2 (w.heap.size + 1) 1 (.slice A2 (dg 10000 (dval D)).length c2) (by simp)).trans (Turn.setCell _ w.heap.size 0 (.bool neg) (by simp))).trans (Turn.setCell _ w.heap.size 1 (.slice A2 (dg 10000 (dval D)).length c2) (by simp))
      refine bodyPost_ret (v := .agg #[.bool neg, .slice A2 (dg 10000 (dval D)).length c2]) (by simp [results, Tryz.results59, go_sem, h40, h41]) rfl ⟨_, rfl, hr4, hT.below hnx (Nat.le_refl _) (by simp)⟩
    · have hgt : (0 : Int) < (ds.size : Int) := by omega
      have hwr : IntKind.i64.wrap ((ds.size : Int) - 4) = (ds.size : Int) - 4 := IntWalk.i64_in _ (by omega)
      have hmx : max (0 : Int) ((ds.size : Int) - 4) = ((ds.size - 4 : Nat) : Int) := by omega
      obtain ⟨p, hp⟩ : ∃ p, p = ds.extract (ds.size - 4) ds.size := ⟨_, rfl⟩
      have hpl : p.data.toList = (D.take ds.size).drop (ds.size - 4) := by rw [hp, Lib.extract_to_end, hT.out]
      have hml : ds.size ≤ D.length := by have := hPI.out.len; omega
      have hpn : p.data.toList.length = ds.size - (ds.size - 4) := by rw [hpl, piece_len hml]
      have AT := Lib.hid (atoi_any p (fun e => by rw [e] at hpn; simp at hpn; omega) (by rw [hpl]; exact piece_all HD2.out _) (by omega) wr)
      have HST := Lib.hid (hPI.out.step HD2.out h0)
      rw [← hpl] at HST
      have HP := Lib.hid hp
      clear hpl hpn hp hPI
      go_wp2_with (first
        | (go_at_call 57; rw [← HP.out]; (with_reducible refine AT.out.mono ?_); rintro e w2 ⟨rfl, hb2⟩; have hc2 := (hb2.cell (cell_lt hc1)).trans hc1; have hf2 := (hsb.out.below hb2 hsb.out.lt).frozen 1)
        | (at_builtin; refine app_one rfl (.tmp 31) (.tmp 33) rfl (w.heap.size + 2) _ g (dval p.data.toList) rfl (own_below HOWN.out hb2) rfl (by omega) (by have := hsb.out.lt; have := hb2.size; omega) ?_; intro v' w3 hown3 hb3; have HOWN3 := Lib.hid hown3; have HB3 := Lib.hid hb3; obtain ⟨A3, c3, rfl, -⟩ := Rd.own hown3 (by simp; omega); clear hown3 hb3; have hs3 := (hsb.out.below hb2 hsb.out.lt).below (HB3.out (w.heap.size + 2) w2 (Below.refl _ _) (Nat.le_refl _)) (by omega); have hc3 := hs3.cell1; have hf3 := hs3.frozen 1))
      have hr3 := (hsr.out.below hb2 hsr.out.lt).below (HB3.out (w.heap.size + 2) w2 (Below.refl _ _) (Nat.le_refl _)) (by omega)
      go_roundg (ds.size - 4)
      case measure => omega
      case rel => exact ⟨ds.size - 4, ds.extract 0 (ds.size - 4), _, _, rfl, by rw [upto_list, hT.out, List.take_take, Nat.min_eq_left (by omega)]; exact rfl, Lib.hid (by rw [ByteArray.size_extract]; omega), by omega, Nat.le_refl _, HST.out,
          hs3.set _, hr3.other (b := w.heap.size + 1) (by omega) _ _, by (have h := own_set HOWN3.out (w.heap.size + 1) 1 (by omega) (.slice A3 (g.length + 1) c3)); simp only [List.length_append, List.length_singleton] at h ⊢; exact h, (Turn.setCell (X := [w.heap.size + 1]) _ _ _ _ (by simp)).below (HB3.out w.heap.size w (hnx.trans (hb2.mono hnx.size)) (by omega)) (Nat.le_refl _) (by simp)⟩

end Go.Proofs.YtcpkejpdpohfeaaGreatDoor
