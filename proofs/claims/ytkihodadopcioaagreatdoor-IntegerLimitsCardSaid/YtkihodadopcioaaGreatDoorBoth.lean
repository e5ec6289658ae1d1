/- both: two texts as numbers. -/
import Derived.Test.YtkihodadopcioaaGreatDoorParse
namespace Go.Proofs.YtkihodadopcioaaGreatDoor
open Go.Shelf Go.RowKit

/-- A text as a value. -/
abbrev txt (l : List UInt8) : Value := .string ⟨l.toArray⟩

theorem Boxed2.set {W : World} {B : Nat} {t : TypeId} {u v : Value} (h : Boxed2 W B t u v) {p : Addr} (hp : p.block ≠ B) (x : Value) : Boxed2 (W.setCell p x) B t u v := (Below.heap_setCell W p x B hp.symm).trans h

/-- Two structs are filled. -/
def filled (W : World) (C1 C2 : Nat) (g1 g2 : Bool) (v1 v2 : Value) : World := (((W.setCell ⟨C1, 0, none⟩ (.bool g1)).setCell ⟨C1, 1, none⟩ v1).setCell ⟨C2, 0, none⟩ (.bool g2)).setCell ⟨C2, 1, none⟩ v2
theorem filled_cells {W : World} {C1 C2 : Nat} {t1 t2 : TypeId} {u1 w1 u2 w2 : Value} (h1 : Boxed2 W C1 t1 u1 w1) (h2 : Boxed2 W C2 t2 u2 w2) (hne : C1 ≠ C2) (g1 g2 : Bool) (v1 v2 : Value) :
    Boxed2 (filled W C1 C2 g1 g2 v1 v2) C1 t1 (.bool g1) v1 ∧ Boxed2 (filled W C1 C2 g1 g2 v1 v2) C2 t2 (.bool g2) v2 :=
  ⟨(((h1.set0 _).set1 _).set hne.symm _).set hne.symm _, (((h2.set hne _).set hne _).set0 _).set1 _⟩
theorem filled_below {w W : World} {C1 C2 : Nat} (hb : Below w.heap.size w W) (h1 : w.heap.size ≤ C1) (h2 : w.heap.size ≤ C2) (g1 g2 : Bool) (v1 v2 : Value) : Below w.heap.size w (filled W C1 C2 g1 g2 v1 v2) :=
  (((hb.setCell (p := ⟨C1, 0, none⟩) h1 _).setCell (p := ⟨C1, 1, none⟩) h1 _).setCell (p := ⟨C2, 0, none⟩) h2 _).setCell (p := ⟨C2, 1, none⟩) h2 _
theorem filled_num {W : World} {C1 C2 B : Nat} {t1 t2 : TypeId} {f1 f2 : Bool} {a1 a2 : Option Addr} {n1 n2 c1 c2 : Nat} (h1 : Boxed2 W C1 t1 (.bool f1) (.slice a1 n1 c1)) (h2 : Boxed2 W C2 t2 (.bool f2) (.slice a2 n2 c2)) (hne : C1 ≠ C2) (g1 g2 : Bool) (b1 b2 : Option Addr) (m1 m2 d1 d2 : Nat)
    {v : Value} {x : Nat} (h : IsNum B W v x) : IsNum B (filled W C1 C2 g1 g2 (.slice b1 m1 d1) (.slice b2 m2 d2)) v x := by
  have k1 := h.set_box2 h1 (p := ⟨C1, 0, none⟩) rfl (.bool g1)
  have k2 := k1.set_box2 (h1.set0 (.bool g1)) (p := ⟨C1, 1, none⟩) rfl (.slice b1 m1 d1)
  have e2 := (h2.set (p := ⟨C1, 0, none⟩) hne (.bool g1)).set (p := ⟨C1, 1, none⟩) hne (.slice b1 m1 d1)
  have k3 := k2.set_box2 e2 (p := ⟨C2, 0, none⟩) rfl (.bool g2)
  exact k3.set_box2 (e2.set0 (.bool g2)) (p := ⟨C2, 1, none⟩) rfl (.slice b2 m2 d2)

set_option maxRecDepth 100000 in
set_option maxHeartbeats 2000000 in
theorem both_no (l m : List UInt8) (w : World) (hl : l.length ≤ 1000000) (hm : m.length ≤ 1000000) (hv : (Dec.vld l && Dec.vld m) = false) :
    Calls Tryz.prog 68 #[txt l, txt m] w fun e w' => e = .returned (.tuple #[.agg #[.bool false, .slice none 0 0], .agg #[.bool false, .slice none 0 0], .bool false]) ∧ Below w.heap.size w w' := by
  have V1 := fun W => valid_any ⟨l.toArray⟩ W (by rw [Lib.size_eq]; simp; omega)
  have V2 := fun W => valid_any ⟨m.toArray⟩ W (by rw [Lib.size_eq]; simp; omega)
  simp only at V1 V2
  have b1 := (Boxed2.new w 94 (.bool false) (.slice none 0 0)).alloc (.cells #[.bool false, .slice none 0 0] 94)
  have b2 := Boxed2.new (w.alloc (.cells #[.bool false, .slice none 0 0] 94)) 94 (.bool false) (.slice none 0 0)
  have hbw : Below w.heap.size w ((w.alloc (.cells #[.bool false, .slice none 0 0] 94)).alloc (.cells #[.bool false, .slice none 0 0] 94)) := ((Below.refl _ w).alloc (Nat.le_refl _) _).alloc (by simp) _
  simp only [World.size_alloc] at b2
  cases h1 : Dec.vld l with
  | false =>
    rw [h1] at V1
    go_enter Tryz.func68, Tryz.ntmps68
    go_wp2_with (go_at_call 73; refine (V1 _).mono ?_; rintro e w1 ⟨rfl, hb⟩; have x1 := b1.below hb; have x2 := b2.below hb; have c10 := x1.cell0; have c11 := x1.cell1; have f10 := x1.frozen0; have f11 := x1.frozen1; have c20 := x2.cell0; have c21 := x2.cell1; have f20 := x2.frozen0; have f21 := x2.frozen1)
    have hf := filled_cells x1 x2 (by simp) false false (.slice none 0 0) (.slice none 0 0)
    have hfb := filled_below (hbw.trans (hb.mono hbw.size)) (Nat.le_refl _) (Nat.le_succ _) false false (.slice none 0 0) (.slice none 0 0)
    have k1 := hf.1.cell0
    have k2 := hf.1.cell1
    have k3 := hf.2.cell0
    have k4 := hf.2.cell1
    unfold filled at k1 k2 k3 k4 hfb
    refine bodyPost_ret (v := .tuple #[.agg #[.bool false, .slice none 0 0], .agg #[.bool false, .slice none 0 0], .bool false]) ?_ rfl ⟨rfl, hfb⟩
    simp [results, Tryz.results68, go_sem, k1, k2, k3, k4]
  | true =>
    have h2 : Dec.vld m = false := by simpa [h1] using hv
    rw [h1] at V1
    rw [h2] at V2
    go_enter Tryz.func68, Tryz.ntmps68
    go_wp2_with fail
    refine (V1 _).mono ?_
    rintro e w0 ⟨rfl, hb0⟩
    go_wp2_with fail
    refine (V2 _).mono ?_
    rintro e w1 ⟨rfl, hb1⟩
    have hb := hb0.trans (hb1.mono hb0.size)
    have x1 := b1.below hb
    have x2 := b2.below hb
    have c10 := x1.cell0
    have c11 := x1.cell1
    have f10 := x1.frozen0
    have f11 := x1.frozen1
    have c20 := x2.cell0
    have c21 := x2.cell1
    have f20 := x2.frozen0
    have f21 := x2.frozen1
    go_wp2
    have hf := filled_cells x1 x2 (by simp) false false (.slice none 0 0) (.slice none 0 0)
    have hfb := filled_below (hbw.trans (hb.mono hbw.size)) (Nat.le_refl _) (Nat.le_succ _) false false (.slice none 0 0) (.slice none 0 0)
    have k1 := hf.1.cell0
    have k2 := hf.1.cell1
    have k3 := hf.2.cell0
    have k4 := hf.2.cell1
    unfold filled at k1 k2 k3 k4 hfb
    refine bodyPost_ret (v := .tuple #[.agg #[.bool false, .slice none 0 0], .agg #[.bool false, .slice none 0 0], .bool false]) ?_ rfl ⟨rfl, hfb⟩
    simp [results, Tryz.results68, go_sem, k1, k2, k3, k4]

set_option maxRecDepth 100000 in
set_option maxHeartbeats 2000000 in
theorem both_yes (x y : Int) (w : World) (hx : x.natAbs < 10 ^ 200) (hy : y.natAbs < 10 ^ 200) :
    Calls Tryz.prog 68 #[txt (Lib.itoa x), txt (Lib.itoa y)] w fun e w' => (∃ u v, e = .returned (.tuple #[u, v, .bool true]) ∧ IsSig w'.heap.size w' u (decide (x < 0)) x.natAbs ∧ IsSig w'.heap.size w' v (decide (y < 0)) y.natAbs) ∧ Below w.heap.size w w' := by
  have V1 := fun W => valid_any ⟨(Lib.itoa x).toArray⟩ W (by have := itoa_length x hx; rw [Lib.size_eq]; simp; omega)
  have V2 := fun W => valid_any ⟨(Lib.itoa y).toArray⟩ W (by have := itoa_length y hy; rw [Lib.size_eq]; simp; omega)
  simp only [Dec.vld_itoa x hx, Dec.vld_itoa y hy] at V1 V2
  have P1 := fun W => parse_itoa x W hx
  have P2 := fun W => parse_itoa y W hy
  generalize Lib.itoa x = l at V1 P1 ⊢
  generalize Lib.itoa y = m at V2 P2 ⊢
  have b1 := (Boxed2.new w 94 (.bool false) (.slice none 0 0)).alloc (.cells #[.bool false, .slice none 0 0] 94)
  have b2 := Boxed2.new (w.alloc (.cells #[.bool false, .slice none 0 0] 94)) 94 (.bool false) (.slice none 0 0)
  have hbw : Below w.heap.size w ((w.alloc (.cells #[.bool false, .slice none 0 0] 94)).alloc (.cells #[.bool false, .slice none 0 0] 94)) := ((Below.refl _ w).alloc (Nat.le_refl _) _).alloc (by simp) _
  simp only [World.size_alloc] at b2
  go_enter Tryz.func68, Tryz.ntmps68
  go_wp2_with fail
  refine (V1 _).mono ?_
  rintro e w0 ⟨rfl, hb0⟩
  go_wp2_with fail
  refine (V2 _).mono ?_
  rintro e w1 ⟨rfl, hb1⟩
  have hb2 := hb0.trans (hb1.mono hb0.size)
  go_wp2_with fail
  refine (P1 _).mono ?_
  rintro e w2 ⟨⟨u, rfl, hu⟩, hb3⟩
  go_wp2_with fail
  refine (P2 _).mono ?_
  rintro e w3 ⟨⟨v, rfl, hv⟩, hb4⟩
  have hu' := Lib.hid (hu.later hb4)
  obtain ⟨uv, rfl, hun⟩ := hu.later hb4
  obtain ⟨vv, rfl, hvn⟩ := hv
  have hun' := Lib.hid hun
  have hvn' := Lib.hid hvn
  obtain ⟨ua, uc, rfl, -, -⟩ := hun
  obtain ⟨va, vc, rfl, -, -⟩ := hvn
  clear hu
  have hb := (hb2.trans (hb3.mono hb2.size)).trans (hb4.mono (Nat.le_trans hb2.size hb3.size))
  have x1 := b1.below hb
  have x2 := b2.below hb
  have c10 := x1.cell0
  have c11 := x1.cell1
  have f10 := x1.frozen0
  have f11 := x1.frozen1
  have c20 := x2.cell0
  have c21 := x2.cell1
  have f20 := x2.frozen0
  have f21 := x2.frozen1
  go_wp2
  have hf := filled_cells x1 x2 (by simp) (decide (x < 0)) (decide (y < 0)) (.slice ua (Num.gl x.natAbs) uc) (.slice va (Num.gl y.natAbs) vc)
  have hfb := filled_below (hbw.trans (hb.mono hbw.size)) (Nat.le_refl _) (Nat.le_succ _) (decide (x < 0)) (decide (y < 0)) (.slice ua (Num.gl x.natAbs) uc) (.slice va (Num.gl y.natAbs) vc)
  have n1 := filled_num x1 x2 (by simp) (decide (x < 0)) (decide (y < 0)) ua va (Num.gl x.natAbs) (Num.gl y.natAbs) uc vc hun'.out
  have n2 := filled_num x1 x2 (by simp) (decide (x < 0)) (decide (y < 0)) ua va (Num.gl x.natAbs) (Num.gl y.natAbs) uc vc hvn'.out
  have k1 := hf.1.cell0
  have k2 := hf.1.cell1
  have k3 := hf.2.cell0
  have k4 := hf.2.cell1
  unfold filled at k1 k2 k3 k4 hfb n1 n2
  refine bodyPost_ret (v := .tuple #[.agg #[.bool (decide (x < 0)), .slice ua (Num.gl x.natAbs) uc], .agg #[.bool (decide (y < 0)), .slice va (Num.gl y.natAbs) vc], .bool true]) ?_ rfl ⟨⟨_, _, rfl, ⟨_, rfl, ?_⟩, ⟨_, rfl, ?_⟩⟩, hfb⟩
  · simp [results, Tryz.results68, go_sem, k1, k2, k3, k4]
  · simpa [setCell_size] using n1
  · simpa [setCell_size] using n2
end Go.Proofs.YtkihodadopcioaaGreatDoor
