/- What is kept by stores into boxes, by calls, by appends onto a new literal. -/
import Derived.Test.YtkihodadopcioaaGreatDoorBack
import Derived.Test.YtkihodadopcioaaGreatDoorFold
namespace Go.Proofs.YtkihodadopcioaaGreatDoor
open Go.RowKit

theorem Boxed.below {W W' : World} {B : Nat} {t : TypeId} {v : Value} (h : Boxed W B t v) (hb : Below W.heap.size W W') : Boxed W' B t v := (hb.block B h.lt).trans h
theorem Boxed.below' {W W' : World} {B n : Nat} {t : TypeId} {v : Value} (h : Boxed W B t v) (hb : Below n W W') (hn : B < n) : Boxed W' B t v := (hb.block B hn).trans h
theorem Boxed.other {W : World} {B B' : Nat} {t : TypeId} {v : Value} (u : Value) (h : Boxed W B t v) (hne : B ≠ B') : Boxed (W.setCell ⟨B', 0, none⟩ u) B t v := h.kept (grownBy_setCell' W B' u) (by intro e; cases e; exact hne rfl)

/-- A row of groups is not a variable's box of slices. -/
theorem Row.set_box {B C : Nat} {W : World} {a : Option Addr} {l : List Nat} {t : TypeId} {b : Option Addr} {n c : Nat} (h : Row B W a l) (hx : Boxed W C t (.slice b n c)) (u : Value) : Row B (W.setCell ⟨C, 0, none⟩ u) a l := fun hl => by
  obtain ⟨g, o, e, hb, hc⟩ := h hl
  refine ⟨g, o, e, hb, fun j d hd => ?_⟩
  have h1 := hc j d hd
  have hne : g ≠ C := by
    intro e'
    subst e'
    have h2 := hx.cell
    unfold World.cell? at h1 h2
    rw [show W.heap[g]? = _ from hx] at h1 h2
    simp at h1
    rcases h0 : o + j with _ | k
    · rw [h0] at h1; simp at h1
    · rw [h0] at h1; simp at h1
  exact (World.cell?_of_block (a := ⟨g, o + j, none⟩) (Below.heap_setCell W ⟨C, 0, none⟩ u g hne)).trans h1
theorem IsNum.set_box {B C : Nat} {W : World} {v : Value} {x : Nat} {t : TypeId} {b : Option Addr} {n c : Nat} (h : IsNum B W v x) (hx : Boxed W C t (.slice b n c)) (u : Value) : IsNum B (W.setCell ⟨C, 0, none⟩ u) v x := by
  obtain ⟨a, cap, e, hc, hr⟩ := h
  exact ⟨a, cap, e, hc, hr.set_box hx u⟩
theorem Row.kept {B : Nat} {W W' : World} {row : Option Nat} {a : Option Addr} {l : List Nat} (h : Row B W a l) (hg : W.grownBy W' row) (hr : ∀ r, row = some r → ∃ o : Obj, W.heap[r]? = some o ∧ o.isCells = false) : Row B W' a l := fun hl => by
  obtain ⟨g, o, e, hb, hc⟩ := h hl
  exact ⟨g, o, e, hb, fun j d hd => cell_kept (hc j d hd) hg hr⟩
/-- A number in memory abides the turn of what is no cells. -/
theorem Turns.num {B : Nat} {v : Value} {x : Nat} : Turns B (fun W => IsNum W.heap.size W v x) := fun W W' row h hg hr => by
  obtain ⟨a, cap, e, hc, hrw⟩ := h
  exact ⟨a, cap, e, hc, (hrw.kept hg (fun r e => (hr r e).2)).mono hg.size⟩
theorem Turns.ex {α : Type} {B : Nat} {I : α → World → Prop} (h : ∀ x, Turns B (I x)) : Turns B (fun W => ∃ x, I x W) := fun W W' row ⟨x, hx⟩ hg hr => ⟨x, h x W W' row hx hg hr⟩

theorem setCell_size (W : World) (a : Addr) (u : Value) : (W.setCell a u).heap.size = W.heap.size := by simp [World.setCell]

/-- A literal of one group owns its row. -/
theorem lit_own (W : World) (d : Nat) : (W.alloc (.cells #[dv d] 3)).ownsRow W.heap.size 3 1 (.slice (some ⟨W.heap.size, 0, none⟩) 1 1) 1 [dv d] :=
  ⟨rfl, .inr ⟨W.heap.size, 1, #[dv d], rfl, Nat.le_refl _, World.alloc_heap_new W _, Nat.le_refl _, by unfold maxLen; omega, rfl, rfl⟩⟩

/-- Behind the append onto a literal: the groups of the number, one place further. -/
theorem lit_num {w1 : World} {v' : Value} {d x m base : Nat} (h : w1.ownsRow base 3 1 v' (1 + m) ([dv d] ++ (Num.grp x).map dv)) (hd : d < 10000) (hx : x ≠ 0 ∨ d ≠ 0) : IsNum w1.heap.size w1 v' (d + 10000 * x) := by
  have h' : w1.ownsRow base 3 1 v' (1 + m) ((d :: Num.grp x).map dv) := by simpa using h
  obtain ⟨a, cap, e, hc, hr, _⟩ := row_of_own h'
  rw [← Num.grp_shift hd hx] at e hc hr
  exact ⟨a, cap, e, hc, hr⟩

theorem row_news {B : Nat} {W : World} {ad : Addr} {l : List Nat} (h : Row B W (some ad) l) : ∀ j u, (l.map dv)[j]? = some u → W.cell? (ad.add j) = some u := by
  intro j u hu
  rw [List.getElem?_map] at hu
  obtain ⟨d, hd, rfl⟩ := Option.map_eq_some_iff.1 hu
  obtain ⟨b, o, e, _, hc⟩ := h (by intro e; rw [e] at hd; simp at hd)
  cases e
  have := hc j d hd
  have hadd : (⟨b, o, none⟩ : Addr).add j = ⟨b, o + j, none⟩ := by
    unfold Addr.add
    split
    · rename_i h0; subst h0; rfl
    · rfl
  rw [hadd]
  exact this
theorem news_one (l : List Nat) : ∀ u ∈ l.map dv, u.oneCell' = true := by
  intro u hu
  obtain ⟨d, _, rfl⟩ := List.mem_map.1 hu
  rfl
theorem keeps_of_below {W W' : World} (hb : Below W.heap.size W W') : KeepsOthers W W' := ⟨hb.size, fun k _ hk _ => (hb.block k (Array.getElem?_eq_some_iff.1 hk).1).trans hk⟩
theorem KpB.of_below {n₁ Bs : Nat} {W W' : World} (hb : Below W.heap.size W W') (h1 : n₁ ≤ W.heap.size) (h2 : Bs < W.heap.size) : KpB n₁ Bs W W' := ⟨hb.mono h1, hb.cell (p := ⟨Bs, 0, none⟩) h2⟩
theorem KpB.set {n₁ Bs C : Nat} (W : World) (u : Value) (h1 : n₁ ≤ C) (h2 : Bs ≠ C) : KpB n₁ Bs W (W.setCell ⟨C, 0, none⟩ u) :=
  ⟨(Below.refl _ _).setCell (p := ⟨C, 0, none⟩) h1 u, World.cell?_of_block (a := ⟨Bs, 0, none⟩) (Below.heap_setCell W ⟨C, 0, none⟩ u Bs h2)⟩

/-- A step of a round: a call that makes memory, then a store into a box. -/
structure Step (n₁ Bs : Nat) (W W' : World) : Prop where
  keeps : KeepsOthers W W'
  kp : KpB n₁ Bs W W'
  size : W.heap.size ≤ W'.heap.size
theorem Step.refl {n₁ Bs : Nat} (W : World) : Step n₁ Bs W W := ⟨KeepsOthers.refl W, KpB.refl _ _ W, Nat.le_refl _⟩
theorem Step.trans {n₁ Bs : Nat} {A B C : World} (h : Step n₁ Bs A B) (k : Step n₁ Bs B C) : Step n₁ Bs A C := ⟨h.keeps.trans k.keeps, h.kp.trans k.kp, Nat.le_trans h.size k.size⟩
theorem Step.call {n₁ Bs : Nat} {A W W' : World} (h : Step n₁ Bs A W) (hb : Below W.heap.size W W') (h1 : n₁ ≤ A.heap.size) (h2 : Bs < A.heap.size) : Step n₁ Bs A W' :=
  h.trans ⟨keeps_of_below hb, KpB.of_below hb (Nat.le_trans h1 h.size) (Nat.lt_of_lt_of_le h2 h.size), hb.size⟩
theorem Step.set {n₁ Bs C : Nat} {A W : World} (h : Step n₁ Bs A W) (u : Value) (h1 : n₁ ≤ C) (h2 : Bs ≠ C) : Step n₁ Bs A (W.setCell ⟨C, 0, none⟩ u) :=
  h.trans ⟨KeepsOthers.setCell _ _ _, KpB.set W u h1 h2, by rw [setCell_size]; exact Nat.le_refl _⟩
theorem Step.drew {n₁ Bs : Nat} {A W : World} (h : Step n₁ Bs A W) : Step n₁ Bs A W.drew := ⟨⟨h.keeps.size, h.keeps.same⟩, ⟨h.kp.1.drew, h.kp.2⟩, h.size⟩
end Go.Proofs.YtkihodadopcioaaGreatDoor
