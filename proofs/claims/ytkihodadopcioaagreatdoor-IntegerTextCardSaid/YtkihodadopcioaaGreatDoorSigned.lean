/- Signed integers: the sum. -/
import Derived.Test.YtkihodadopcioaaGreatDoorArith
namespace Go.Proofs.YtkihodadopcioaaGreatDoor
open Go.RowKit Go.Shelf

/-- The integer with a sign and an absolute value. -/
def sig (ng : Bool) (n : Nat) : Int := if ng then -(n : Int) else n

/-- A struct of a sign and a number. -/
def IsSig (B : Nat) (w : World) (x : Value) (ng : Bool) (n : Nat) : Prop := ∃ v, x = .agg #[.bool ng, v] ∧ IsNum B w v n
theorem IsSig.later {w w' : World} {x : Value} {ng : Bool} {n : Nat} (h : IsSig w.heap.size w x ng n) (hb : Below w.heap.size w w') : IsSig w'.heap.size w' x ng n := by
  obtain ⟨v, e, hn⟩ := h
  exact ⟨v, e, hn.later hb⟩

/-- Two structs boxed, and a result's place. -/
def boxes3 (w : World) (n1 n2 : Bool) (v1 v2 : Value) : World := ((w.alloc (.cells #[.bool n1, v1] 94)).alloc (.cells #[.bool n2, v2] 94)).alloc (.cells #[.bool false, .slice none 0 0] 94)

/-- A block of two cells. -/
def Boxed2 (W : World) (B : Nat) (t : TypeId) (u v : Value) : Prop := W.heap[B]? = some (.cells #[u, v] t (0, 0))
section
variable {W W' : World} {B : Nat} {t : TypeId} {u v : Value}
theorem Boxed2.lt (h : Boxed2 W B t u v) : B < W.heap.size := (Array.getElem?_eq_some_iff.1 h).1
theorem Boxed2.cell0 (h : Boxed2 W B t u v) : W.cell? ⟨B, 0, none⟩ = some u := by simp [World.cell?, show W.heap[B]? = _ from h]
theorem Boxed2.cell1 (h : Boxed2 W B t u v) : W.cell? ⟨B, 1, none⟩ = some v := by simp [World.cell?, show W.heap[B]? = _ from h]
theorem Boxed2.frozen0 (h : Boxed2 W B t u v) : W.frozen? ⟨B, 0, none⟩ = false := by simp [World.frozen?, show W.heap[B]? = _ from h]
theorem Boxed2.frozen1 (h : Boxed2 W B t u v) : W.frozen? ⟨B, 1, none⟩ = false := by simp [World.frozen?, show W.heap[B]? = _ from h]
theorem Boxed2.new (W : World) (t : TypeId) (u v : Value) : Boxed2 (W.alloc (.cells #[u, v] t)) W.heap.size t u v := World.alloc_heap_new W _
theorem Boxed2.below (h : Boxed2 W B t u v) (hb : Below W.heap.size W W') : Boxed2 W' B t u v := (hb.block B h.lt).trans h
theorem Boxed2.alloc (h : Boxed2 W B t u v) (o : Obj) : Boxed2 (W.alloc o) B t u v := h.below ((Below.refl _ _).alloc (Nat.le_refl _) o)
theorem Boxed2.set0 (u' : Value) (h : Boxed2 W B t u v) : Boxed2 (W.setCell ⟨B, 0, none⟩ u') B t u' v := by
  unfold Boxed2 at h ⊢
  simp [World.setCell, Array.getElem?_modify, h]
theorem Boxed2.set1 (v' : Value) (h : Boxed2 W B t u v) : Boxed2 (W.setCell ⟨B, 1, none⟩ v') B t u v' := by
  unfold Boxed2 at h ⊢
  simp [World.setCell, Array.getElem?_modify, h]
end
theorem boxes3_below (w : World) (n1 n2 : Bool) (v1 v2 : Value) : Below w.heap.size w (boxes3 w n1 n2 v1 v2) := (((Below.refl _ w).alloc (Nat.le_refl _) _).alloc (by simp) _).alloc (by simp; omega) _
theorem boxes3_cells (w : World) (n1 n2 : Bool) (v1 v2 : Value) : ((boxes3 w n1 n2 v1 v2).cell? ⟨w.heap.size, 0, none⟩ = some (.bool n1) ∧ (boxes3 w n1 n2 v1 v2).cell? ⟨w.heap.size, 1, none⟩ = some v1) ∧
    ((boxes3 w n1 n2 v1 v2).cell? ⟨w.heap.size + 1, 0, none⟩ = some (.bool n2) ∧ (boxes3 w n1 n2 v1 v2).cell? ⟨w.heap.size + 1, 1, none⟩ = some v2) ∧
    Boxed2 (boxes3 w n1 n2 v1 v2) (w.heap.size + 1 + 1) 94 (.bool false) (.slice none 0 0) ∧ w.heap.size + 1 + 1 < (boxes3 w n1 n2 v1 v2).heap.size := by
  have b1 := ((Boxed2.new w 94 (.bool n1) v1).alloc (.cells #[.bool n2, v2] 94)).alloc (.cells #[.bool false, .slice none 0 0] 94)
  have b2 := (Boxed2.new (w.alloc (.cells #[.bool n1, v1] 94)) 94 (.bool n2) v2).alloc (.cells #[.bool false, .slice none 0 0] 94)
  have b3 := Boxed2.new ((w.alloc (.cells #[.bool n1, v1] 94)).alloc (.cells #[.bool n2, v2] 94)) 94 (.bool false) (.slice none 0 0)
  simp only [World.size_alloc] at b2 b3
  exact ⟨⟨b1.cell0, b1.cell1⟩, ⟨b2.cell0, b2.cell1⟩, b3, b3.lt⟩

/-- A row of groups is not a struct of a sign and a number. -/
theorem Row.set_box2 {B C : Nat} {W : World} {a : Option Addr} {l : List Nat} {t : TypeId} {g : Bool} {b : Option Addr} {n c : Nat} (h : Row B W a l) (hx : Boxed2 W C t (.bool g) (.slice b n c)) {p : Addr} (hp : p.block = C) (u : Value) : Row B (W.setCell p u) a l := fun hl => by
  obtain ⟨q, o, e, hb, hc⟩ := h hl
  refine ⟨q, o, e, hb, fun j d hd => ?_⟩
  have h1 := hc j d hd
  have hne : q ≠ p.block := by
    rw [hp]
    intro e'
    subst e'
    unfold World.cell? at h1
    rw [show W.heap[q]? = _ from hx] at h1
    simp at h1
    rcases h0 : o + j with _ | _ | k
    · rw [h0] at h1; simp at h1
    · rw [h0] at h1; simp at h1
    · rw [h0] at h1; simp at h1
  exact (World.cell?_of_block (a := ⟨q, o + j, none⟩) (Below.heap_setCell W p u q hne)).trans h1
theorem IsNum.set_box2 {B C : Nat} {W : World} {v : Value} {x : Nat} {t : TypeId} {g : Bool} {b : Option Addr} {n c : Nat} (h : IsNum B W v x) (hx : Boxed2 W C t (.bool g) (.slice b n c)) {p : Addr} (hp : p.block = C) (u : Value) : IsNum B (W.setCell p u) v x := by
  obtain ⟨a, cap, e, hc, hr⟩ := h
  exact ⟨a, cap, e, hc, hr.set_box2 hx hp u⟩

/-- The result's struct is filled. -/
theorem sig_end {w W : World} {C N l pc : Nat} {g g0 : Bool} {pa b : Option Addr} {n c : Nat} (hC : w.heap.size ≤ C) (bR : Boxed2 W C 94 (.bool g0) (.slice b n c)) (hb : Below w.heap.size w W) (hn : IsNum W.heap.size W (.slice pa l pc) N) :
    (((W.setCell ⟨C, 0, none⟩ (.bool g)).setCell ⟨C, 1, none⟩ (.slice pa l pc)).cell? ⟨C, 0, none⟩ = some (.bool g) ∧ ((W.setCell ⟨C, 0, none⟩ (.bool g)).setCell ⟨C, 1, none⟩ (.slice pa l pc)).cell? ⟨C, 1, none⟩ = some (.slice pa l pc)) ∧
    IsSig ((W.setCell ⟨C, 0, none⟩ (.bool g)).setCell ⟨C, 1, none⟩ (.slice pa l pc)).heap.size ((W.setCell ⟨C, 0, none⟩ (.bool g)).setCell ⟨C, 1, none⟩ (.slice pa l pc)) (.agg #[.bool g, .slice pa l pc]) g N ∧
    Below w.heap.size w ((W.setCell ⟨C, 0, none⟩ (.bool g)).setCell ⟨C, 1, none⟩ (.slice pa l pc)) := by
  have b1 := bR.set0 (.bool g)
  have b2 := b1.set1 (.slice pa l pc)
  refine ⟨⟨b2.cell0, b2.cell1⟩, ⟨_, rfl, ?_⟩, (hb.setCell (p := ⟨C, 0, none⟩) hC _).setCell (p := ⟨C, 1, none⟩) hC _⟩
  rw [setCell_size, setCell_size]
  exact (hn.set_box2 bR (p := ⟨C, 0, none⟩) rfl _).set_box2 b1 (p := ⟨C, 1, none⟩) rfl _

set_option maxRecDepth 100000 in
set_option maxHeartbeats 2000000 in
theorem splus_same (w : World) (a1 a2 : Option Addr) (c1 c2 n m : Nat) (ng : Bool) (hn : Num.gl n ≤ 1000000) (hm : Num.gl m ≤ 1000000) (h1 : IsNum w.heap.size w (.slice a1 (Num.gl n) c1) n) (h2 : IsNum w.heap.size w (.slice a2 (Num.gl m) c2) m) :
    Calls Tryz.prog 69 #[.agg #[.bool ng, .slice a1 (Num.gl n) c1], .agg #[.bool ng, .slice a2 (Num.gl m) c2]] w fun e w' => (∃ x, e = .returned x ∧ IsSig w'.heap.size w' x ng (n + m)) ∧ Below w.heap.size w w' := by
  have e0 : (ng == ng) = true := by simp
  obtain ⟨l1, hl1⟩ : ∃ l1, l1 = Num.gl n := ⟨_, rfl⟩
  obtain ⟨l2, hl2⟩ : ∃ l2, l2 = Num.gl m := ⟨_, rfl⟩
  rw [← hl1] at h1 hn ⊢
  rw [← hl2] at h2 hm ⊢
  have HN : Hid (Num.gl n = l1) := Lib.hid hl1.symm
  have HM : Hid (Num.gl m = l2) := Lib.hid hl2.symm
  have H1 := Lib.hid h1
  have H2 := Lib.hid h2
  clear h1 h2 hl1 hl2
  obtain ⟨W, hW⟩ : ∃ W, W = boxes3 w ng ng (.slice a1 l1 c1) (.slice a2 l2 c2) := ⟨_, rfl⟩
  have hB := boxes3_below w ng ng (.slice a1 l1 c1) (.slice a2 l2 c2)
  have hC := boxes3_cells w ng ng (.slice a1 l1 c1) (.slice a2 l2 c2)
  rw [← hW] at hB hC
  go_enter Tryz.func69, Tryz.ntmps69
  go_wp2
  rw [show ((w.alloc (.cells #[.bool ng, .slice a1 l1 c1] 94)).alloc (.cells #[.bool ng, .slice a2 l2 c2] 94)).alloc (.cells #[.bool false, .slice none 0 0] 94) = W from hW.symm]
  clear hW
  obtain ⟨⟨x0, x1⟩, ⟨y0, y1⟩, bR, hsz⟩ := hC
  have hB0 := hB
  have hW0 := Lib.hid hB
  clear hB
  have GP := Lib.hid (plus_any W.drew (.slice a1 l1 c1) (.slice a2 l2 c2) n m (by have := HN.out; omega) (by have := HM.out; omega) (H1.out.later hB0.drew) (H2.out.later hB0.drew))
  clear hB0
  go_region_with (first
    | (go_at_call 79; refine GP.out.mono ?_; rintro e w' ⟨⟨pv, rfl, hpv⟩, hb3⟩; have x03 := (hb3.cell (p := ⟨w.heap.size, 0, none⟩) (by simp; omega)).trans x0; have y03 := (hb3.cell (p := ⟨w.heap.size + 1, 0, none⟩) (by simp; omega)).trans y0; have bR3 := Boxed2.below (show Boxed2 W.drew _ _ _ _ from bR) hb3; have r0 := bR3.cell0; have r1 := bR3.cell1; have rf0 := bR3.frozen0; have rf1 := bR3.frozen1; have hpn := Lib.hid hpv; obtain ⟨pa, pc, rfl, -, -⟩ := hpv))
  all_goals go_wp2
  all_goals have hE := sig_end (g := ng) (by omega) bR3 (hW0.out.drew.trans (hb3.mono hW0.out.size)) hpn.out
  all_goals refine bodyPost_ret (v := .agg #[.bool ng, .slice pa (Num.gl (n + m)) pc]) ?_ rfl ⟨⟨_, rfl, hE.2.1⟩, hE.2.2⟩
  all_goals simp [results, Tryz.results69, go_sem, hE.1.1, hE.1.2]

theorem sgn_nonneg {n m : Nat} (h : m ≤ n) : 0 ≤ sgn (n : Int) (m : Int) := by
  rw [sgn_cast, if_neg (by omega)]
  split <;> omega
theorem sgn_negative {n m : Nat} (h : n < m) : sgn (n : Int) (m : Int) < 0 := by
  rw [sgn_cast, if_pos h]; omega

set_option maxRecDepth 100000 in
set_option maxHeartbeats 2000000 in
theorem splus_ge (w : World) (a1 a2 : Option Addr) (c1 c2 n m : Nat) (ng : Bool) (hn : Num.gl n ≤ 1000000) (hnm : m ≤ n) (h1 : IsNum w.heap.size w (.slice a1 (Num.gl n) c1) n) (h2 : IsNum w.heap.size w (.slice a2 (Num.gl m) c2) m) :
    Calls Tryz.prog 69 #[.agg #[.bool ng, .slice a1 (Num.gl n) c1], .agg #[.bool (!ng), .slice a2 (Num.gl m) c2]] w fun e w' => (∃ x, e = .returned x ∧ IsSig w'.heap.size w' x ng (n - m)) ∧ Below w.heap.size w w' := by
  have e0 : (ng == !ng) = false := by cases ng <;> rfl
  have hge : 0 ≤ sgn (n : Int) (m : Int) := sgn_nonneg hnm
  have hnm' := Lib.hid hnm
  clear hnm
  obtain ⟨l1, hl1⟩ : ∃ l1, l1 = Num.gl n := ⟨_, rfl⟩
  obtain ⟨l2, hl2⟩ : ∃ l2, l2 = Num.gl m := ⟨_, rfl⟩
  rw [← hl1] at h1 hn ⊢
  rw [← hl2] at h2 ⊢
  have HN : Hid (Num.gl n = l1) := Lib.hid hl1.symm
  have HM : Hid (Num.gl m = l2) := Lib.hid hl2.symm
  have H1 := Lib.hid h1
  have H2 := Lib.hid h2
  clear h1 h2 hl1 hl2
  obtain ⟨W, hW⟩ : ∃ W, W = boxes3 w ng (!ng) (.slice a1 l1 c1) (.slice a2 l2 c2) := ⟨_, rfl⟩
  have hB := boxes3_below w ng (!ng) (.slice a1 l1 c1) (.slice a2 l2 c2)
  have hC := boxes3_cells w ng (!ng) (.slice a1 l1 c1) (.slice a2 l2 c2)
  rw [← hW] at hB hC
  have HCmp := Lib.hid (compare_any W (.slice a1 l1 c1) (.slice a2 l2 c2) n m (by have := HN.out; omega) (H1.out.later hB) (H2.out.later hB))
  go_enter Tryz.func69, Tryz.ntmps69
  go_wp2_with fail
  rw [show ((w.alloc (.cells #[.bool ng, .slice a1 l1 c1] 94)).alloc (.cells #[.bool (!ng), .slice a2 l2 c2] 94)).alloc (.cells #[.bool false, .slice none 0 0] 94) = W from hW.symm]
  clear hW
  obtain ⟨⟨x0', x1'⟩, ⟨y0', y1'⟩, bR', hsz'⟩ := hC
  have hB1 := hB
  refine HCmp.out.mono ?_
  rintro e W1 ⟨rfl, hb1⟩
  have x0 := (hb1.cell (p := ⟨w.heap.size, 0, none⟩) (by simp; omega)).trans x0'
  have x1 := (hb1.cell (p := ⟨w.heap.size, 1, none⟩) (by simp; omega)).trans x1'
  have y0 := (hb1.cell (p := ⟨w.heap.size + 1, 0, none⟩) (by simp; omega)).trans y0'
  have y1 := (hb1.cell (p := ⟨w.heap.size + 1, 1, none⟩) (by simp; omega)).trans y1'
  have bR := Boxed2.below bR' hb1
  have hB0 := hB1.trans (hb1.mono hB1.size)
  have hsz := bR.lt
  have hW0 := Lib.hid hB0
  clear x0' x1' y0' y1' bR' hsz' hB1 hB hb1 HCmp
  go_wp2
  have GP := Lib.hid (minus_any W1.drew (.slice a1 l1 c1) (.slice a2 l2 c2) n m (by have := HN.out; omega) hnm'.out (H1.out.later hB0.drew) (H2.out.later hB0.drew))
  clear hB0
  go_region_with (first
    | (go_at_call 81; refine GP.out.mono ?_; rintro e w' ⟨⟨pv, rfl, hpv⟩, hb3⟩; have x03 := (hb3.cell (p := ⟨w.heap.size, 0, none⟩) (by simp; omega)).trans x0; have y03 := (hb3.cell (p := ⟨w.heap.size + 1, 0, none⟩) (by simp; omega)).trans y0; have bR3 := Boxed2.below (show Boxed2 W1.drew _ _ _ _ from bR) hb3; have r0 := bR3.cell0; have r1 := bR3.cell1; have rf0 := bR3.frozen0; have rf1 := bR3.frozen1; have hpn := Lib.hid hpv; obtain ⟨pa, pc, rfl, -, -⟩ := hpv))
  all_goals go_wp2
  all_goals have hE := sig_end (g := ng) (by omega) bR3 (hW0.out.drew.trans (hb3.mono hW0.out.size)) hpn.out
  all_goals refine bodyPost_ret (v := .agg #[.bool ng, .slice pa (Num.gl (n - m)) pc]) ?_ rfl ⟨⟨_, rfl, hE.2.1⟩, hE.2.2⟩
  all_goals simp [results, Tryz.results69, go_sem, hE.1.1, hE.1.2]

set_option maxRecDepth 100000 in
set_option maxHeartbeats 2000000 in
theorem splus_lt (w : World) (a1 a2 : Option Addr) (c1 c2 n m : Nat) (ng : Bool) (hn : Num.gl n ≤ 1000000) (hm : Num.gl m ≤ 1000000) (hnm : n < m) (h1 : IsNum w.heap.size w (.slice a1 (Num.gl n) c1) n) (h2 : IsNum w.heap.size w (.slice a2 (Num.gl m) c2) m) :
    Calls Tryz.prog 69 #[.agg #[.bool ng, .slice a1 (Num.gl n) c1], .agg #[.bool (!ng), .slice a2 (Num.gl m) c2]] w fun e w' => (∃ x, e = .returned x ∧ IsSig w'.heap.size w' x (!ng) (m - n)) ∧ Below w.heap.size w w' := by
  have e0 : (ng == !ng) = false := by cases ng <;> rfl
  have hge : sgn (n : Int) (m : Int) < 0 := sgn_negative hnm
  have hnm' := Lib.hid hnm
  clear hnm
  obtain ⟨l1, hl1⟩ : ∃ l1, l1 = Num.gl n := ⟨_, rfl⟩
  obtain ⟨l2, hl2⟩ : ∃ l2, l2 = Num.gl m := ⟨_, rfl⟩
  rw [← hl1] at h1 hn ⊢
  rw [← hl2] at h2 hm ⊢
  have HN : Hid (Num.gl n = l1) := Lib.hid hl1.symm
  have HM : Hid (Num.gl m = l2) := Lib.hid hl2.symm
  have H1 := Lib.hid h1
  have H2 := Lib.hid h2
  clear h1 h2 hl1 hl2
  obtain ⟨W, hW⟩ : ∃ W, W = boxes3 w ng (!ng) (.slice a1 l1 c1) (.slice a2 l2 c2) := ⟨_, rfl⟩
  have hB := boxes3_below w ng (!ng) (.slice a1 l1 c1) (.slice a2 l2 c2)
  have hC := boxes3_cells w ng (!ng) (.slice a1 l1 c1) (.slice a2 l2 c2)
  rw [← hW] at hB hC
  have HCmp := Lib.hid (compare_any W (.slice a1 l1 c1) (.slice a2 l2 c2) n m (by have := HN.out; omega) (H1.out.later hB) (H2.out.later hB))
  go_enter Tryz.func69, Tryz.ntmps69
  go_wp2_with fail
  rw [show ((w.alloc (.cells #[.bool ng, .slice a1 l1 c1] 94)).alloc (.cells #[.bool (!ng), .slice a2 l2 c2] 94)).alloc (.cells #[.bool false, .slice none 0 0] 94) = W from hW.symm]
  clear hW
  obtain ⟨⟨x0', x1'⟩, ⟨y0', y1'⟩, bR', hsz'⟩ := hC
  have hB1 := hB
  refine HCmp.out.mono ?_
  rintro e W1 ⟨rfl, hb1⟩
  have x0 := (hb1.cell (p := ⟨w.heap.size, 0, none⟩) (by simp; omega)).trans x0'
  have x1 := (hb1.cell (p := ⟨w.heap.size, 1, none⟩) (by simp; omega)).trans x1'
  have y0 := (hb1.cell (p := ⟨w.heap.size + 1, 0, none⟩) (by simp; omega)).trans y0'
  have y1 := (hb1.cell (p := ⟨w.heap.size + 1, 1, none⟩) (by simp; omega)).trans y1'
  have bR := Boxed2.below bR' hb1
  have hB0 := hB1.trans (hb1.mono hB1.size)
  have hsz := bR.lt
  have hW0 := Lib.hid hB0
  clear x0' x1' y0' y1' bR' hsz' hB1 hB hb1 HCmp
  go_wp2
  have GP := Lib.hid (minus_any W1.drew (.slice a2 l2 c2) (.slice a1 l1 c1) m n (by have := HM.out; omega) (Nat.le_of_lt hnm'.out) (H2.out.later hB0.drew) (H1.out.later hB0.drew))
  clear hB0
  go_region_with (first
    | (go_at_call 81; refine GP.out.mono ?_; rintro e w' ⟨⟨pv, rfl, hpv⟩, hb3⟩; have x03 := (hb3.cell (p := ⟨w.heap.size, 0, none⟩) (by simp; omega)).trans x0; have y03 := (hb3.cell (p := ⟨w.heap.size + 1, 0, none⟩) (by simp; omega)).trans y0; have bR3 := Boxed2.below (show Boxed2 W1.drew _ _ _ _ from bR) hb3; have r0 := bR3.cell0; have r1 := bR3.cell1; have rf0 := bR3.frozen0; have rf1 := bR3.frozen1; have hpn := Lib.hid hpv; obtain ⟨pa, pc, rfl, -, -⟩ := hpv))
  all_goals go_wp2
  all_goals have hE := sig_end (g := (!ng)) (by omega) bR3 (hW0.out.drew.trans (hb3.mono hW0.out.size)) hpn.out
  all_goals refine bodyPost_ret (v := .agg #[.bool (!ng), .slice pa (Num.gl (m - n)) pc]) ?_ rfl ⟨⟨_, rfl, hE.2.1⟩, hE.2.2⟩
  all_goals simp [results, Tryz.results69, go_sem, hE.1.1, hE.1.2]

/-- The sum of two signed integers. -/
theorem splus_any (w : World) (x y : Value) (g1 g2 : Bool) (n m : Nat) (hn : Num.gl n ≤ 1000000) (hm : Num.gl m ≤ 1000000) (h1 : IsSig w.heap.size w x g1 n) (h2 : IsSig w.heap.size w y g2 m) :
    Calls Tryz.prog 69 #[x, y] w fun e w' => (∃ g N v, e = .returned v ∧ IsSig w'.heap.size w' v g N ∧ sig g N = sig g1 n + sig g2 m ∧ N ≤ n + m) ∧ Below w.heap.size w w' := by
  obtain ⟨v1, rfl, h1⟩ := h1
  obtain ⟨v2, rfl, h2⟩ := h2
  have h1' := h1
  have h2' := h2
  obtain ⟨a1, c1, rfl, _⟩ := h1
  obtain ⟨a2, c2, rfl, _⟩ := h2
  by_cases hg : g2 = g1
  · subst hg
    refine (splus_same w a1 a2 c1 c2 n m g2 hn hm h1' h2').mono ?_
    rintro e w' ⟨⟨v, he, hv⟩, hb⟩
    exact ⟨⟨g2, n + m, v, he, hv, by cases g2 <;> simp [sig] <;> omega, Nat.le_refl _⟩, hb⟩
  · obtain rfl : g2 = !g1 := by cases g1 <;> cases g2 <;> simp_all
    by_cases hnm : m ≤ n
    · refine (splus_ge w a1 a2 c1 c2 n m g1 hn hnm h1' h2').mono ?_
      rintro e w' ⟨⟨v, he, hv⟩, hb⟩
      exact ⟨⟨g1, n - m, v, he, hv, by cases g1 <;> simp [sig] <;> omega, by omega⟩, hb⟩
    · refine (splus_lt w a1 a2 c1 c2 n m g1 hn hm (by omega) h1' h2').mono ?_
      rintro e w' ⟨⟨v, he, hv⟩, hb⟩
      exact ⟨⟨!g1, m - n, v, he, hv, by cases g1 <;> simp [sig] <;> omega, by omega⟩, hb⟩
end Go.Proofs.YtkihodadopcioaaGreatDoor
