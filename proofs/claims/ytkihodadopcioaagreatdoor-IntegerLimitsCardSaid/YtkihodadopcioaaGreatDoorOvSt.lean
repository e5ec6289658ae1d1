/- The state of 'over''s loop, and what calls and stores make of it. -/
import Derived.Test.YtkihodadopcioaaGreatDoorTooMuch
import Derived.Test.YtkihodadopcioaaGreatDoorSearch
import Derived.Test.YtkihodadopcioaaGreatDoorAppend
import Derived.Shelf.RegionOpen
import Derived.Deep.OwnRows
import Derived.Laws.EntriesVeiled
namespace Go.Proofs.YtkihodadopcioaaGreatDoor
open Go.RowKit Go.Shelf

/-! ### Plain: one group more -/
theorem div_step {b H d : Nat} (hb : 0 < b) : (d + 10000 * H) / b = 10000 * (H / b) + (d + 10000 * (H % b)) / b := by
  have h := Nat.div_add_mod H b
  have e : d + 10000 * H = (d + 10000 * (H % b)) + b * (10000 * (H / b)) := by
    have : 10000 * H = 10000 * (b * (H / b)) + 10000 * (H % b) := by rw [← Nat.mul_add, h]
    rw [this, Nat.mul_left_comm b 10000]; omega
  rw [e, Nat.add_mul_div_left _ _ hb, Nat.add_comm]
theorem mod_step {b H d : Nat} : (d + 10000 * H) % b = (d + 10000 * (H % b)) % b := by
  have h := Nat.div_add_mod H b
  have e : d + 10000 * H = (d + 10000 * (H % b)) + b * (10000 * (H / b)) := by
    have : 10000 * H = 10000 * (b * (H / b)) + 10000 * (H % b) := by rw [← Nat.mul_add, h]
    rw [this, Nat.mul_left_comm b 10000]; omega
  rw [e, Nat.add_mul_mod_self_left]
theorem digit_step {b H d : Nat} (hb : 0 < b) (hd : d < 10000) : (d + 10000 * (H % b)) / b < 10000 := by
  have := Nat.mod_lt H hb
  rw [Nat.div_lt_iff_lt_mul hb]
  omega

theorem search_div {X b r : Nat} (hb : 0 < b) (hX : X < b * 10000) (h1 : r ≤ 9999) (h2 : ∀ t, t < r → decide (X < b * (t + 1)) = false) (h3 : ∀ t, r ≤ t → t < 9999 → decide (X < b * (t + 1)) = true) : r = X / b := by
  have hlo : b * r ≤ X := by
    cases r with
    | zero => simp
    | succ r => have := h2 r (Nat.lt_succ_self r); simp only [decide_eq_false_iff_not] at this; omega
  have hhi : X < b * (r + 1) := by
    by_cases h9 : r = 9999
    · subst h9; exact hX
    · have := h3 r (Nat.le_refl _) (by omega); simpa using this
  symm
  rw [Nat.div_eq_iff hb]
  rw [Nat.mul_add, Nat.mul_one] at hhi
  rw [Nat.mul_comm r b]
  omega
theorem more_mono {X b i j : Nat} (hij : i ≤ j) (h : decide (X < b * (i + 1)) = true) : decide (X < b * (j + 1)) = true := by
  have h' : X < b * (i + 1) := by simpa using h
  have : b * (i + 1) ≤ b * (j + 1) := Nat.mul_le_mul_left _ (by omega)
  simp only [decide_eq_true_eq]; omega

/-- The quotient's row when the groups from k on are known. -/
def qrow (k : Nat) (z : List Nat) : Array Value := ((List.replicate k 0 ++ z).map dv).toArray
theorem qrow_get (k : Nat) (z : List Nat) : (qrow (k + 1) z)[k]? = some (dv 0) := by
  unfold qrow
  simp [List.getElem?_append]
theorem qrow_set (k c : Nat) (z : List Nat) : (qrow (k + 1) z).setIfInBounds k (dv c) = qrow k (c :: z) := by
  unfold qrow
  rw [List.replicate_succ', List.append_assoc]
  simp only [List.setIfInBounds_toArray, List.map_append, List.map_cons, List.singleton_append]
  rw [List.set_append, if_neg (by simp)]
  simp
theorem qrow_at (k c : Nat) (z : List Nat) : (qrow k (c :: z))[k]? = some (dv c) := by
  unfold qrow
  simp
theorem qrow_made (n : Nat) : madeCells #[.int .i64 0] n = qrow n [] := by
  unfold madeCells qrow
  apply Array.ext
  · simp
  · intro i h1 h2
    simp [Nat.mod_one]

/-- A block of cells. -/
def Blk (W : World) (g : Nat) (t : TypeId) (cs : Array Value) : Prop := W.heap[g]? = some (.cells cs t (0, 0))
theorem Blk.lt {W : World} {g : Nat} {t : TypeId} {cs : Array Value} (h : Blk W g t cs) : g < W.heap.size := (Array.getElem?_eq_some_iff.1 h).1
theorem Blk.cell {W : World} {g : Nat} {t : TypeId} {cs : Array Value} (h : Blk W g t cs) (i : Nat) : W.cell? ⟨g, i, none⟩ = cs[i]? := cell_of_row W g i cs t (0, 0) h
theorem Blk.frozen {W : World} {g : Nat} {t : TypeId} {cs : Array Value} (h : Blk W g t cs) (i : Nat) : W.frozen? ⟨g, i, none⟩ = false := by simp [World.frozen?, show W.heap[g]? = _ from h]
theorem Blk.below {W W' : World} {g : Nat} {t : TypeId} {cs : Array Value} (h : Blk W g t cs) (hb : Below W.heap.size W W') : Blk W' g t cs := (hb.block g h.lt).trans h
theorem Blk.far {W : World} {g : Nat} {t : TypeId} {cs : Array Value} (h : Blk W g t cs) {p : Addr} (hp : g ≠ p.block) (u : Value) : Blk (W.setCell p u) g t cs := (Below.heap_setCell W p u g hp).trans h
theorem Blk.set_ {W : World} {g : Nat} {t : TypeId} {cs : Array Value} (h : Blk W g t cs) (i : Nat) (u : Value) : Blk (W.setCell ⟨g, i, none⟩ u) g t (cs.setIfInBounds i u) := by
  unfold Blk at h ⊢
  simp [World.setCell, Array.getElem?_modify, h]
theorem Turns.blk {B g : Nat} {t : TypeId} {cs : Array Value} : Turns B (fun W => Blk W g t cs) := fun _ _ _ h hg hr => (hg.block g h.lt (fun e => by
  obtain ⟨_, o, ho, hc⟩ := hr g e.symm
  rw [show _ = _ from h] at ho; cases ho; cases hc)).trans h
theorem Boxed.far {W : World} {B : Nat} {t : TypeId} {v : Value} {p : Addr} (h : Boxed W B t v) (hp : B ≠ p.block) (u : Value) : Boxed (W.setCell p u) B t v := (Below.heap_setCell W p u B hp).trans h
theorem Turns.new {L B : Nat} {v : Value} {x : Nat} : Turns B (fun W => IsNew L W.heap.size W v x) := fun W W' row h hg hr => by
  obtain ⟨a, cap, e, hc, hrw, hf⟩ := h
  exact ⟨a, cap, e, hc, (hrw.kept hg (fun r e => (hr r e).2)).mono hg.size, hf⟩

theorem IsNew.set_far {L B : Nat} {W : World} {v : Value} {x : Nat} (h : IsNew L B W v x) {p : Addr} (hp : p.block < L) (u : Value) : IsNew L B (W.setCell p u) v x := by
  obtain ⟨a, cap, e, hc, hr, hf⟩ := h
  refine ⟨a, cap, e, hc, fun hl => ?_, hf⟩
  obtain ⟨b, o, ea, hb, hcell⟩ := hr hl
  have hL := hf hl _ ea
  exact ⟨b, o, ea, hb, fun j d hd => (World.cell?_of_block (a := ⟨b, o + j, none⟩) (Below.heap_setCell W p u b (by simp at hL; omega))).trans (hcell j d hd)⟩

/-- The loop's state: w: the world in which the call began; A: the round's first world; X: this one. -/
structure OvSt (w A X : World) (mv qv rv : Value) (R : Nat) (cs : Array Value) : Prop where
  st : Step w.heap.size (w.heap.size + 1 + 1 + 1 + 1) A X
  sz : w.heap.size + 1 + 1 + 1 + 1 < A.heap.size
  base : Below w.heap.size w A
  cM : Boxed X w.heap.size 92 mv
  cQ : Boxed X (w.heap.size + 1) 92 qv
  cR : Boxed X (w.heap.size + 1 + 1) 92 rv
  row : Blk X (w.heap.size + 1 + 1 + 1) 3 cs
  num : IsNew (w.heap.size + 1 + 1 + 1 + 1) X.heap.size X rv R

section
variable {w A X X' : World} {mv qv rv : Value} {R : Nat} {cs : Array Value}
theorem OvSt.below (h : OvSt w A X mv qv rv R cs) : Below w.heap.size w X := h.base.trans h.st.kp.1
theorem OvSt.call (h : OvSt w A X mv qv rv R cs) (hb : Below X.heap.size X X') : OvSt w A X' mv qv rv R cs :=
  ⟨h.st.call hb h.base.size h.sz, h.sz, h.base, Boxed.below h.cM hb, Boxed.below h.cQ hb, Boxed.below h.cR hb, h.row.below hb, h.num.later hb⟩
theorem OvSt.drew (h : OvSt w A X mv qv rv R cs) : OvSt w A X.drew mv qv rv R cs := ⟨h.st.drew, h.sz, h.base, h.cM, h.cQ, h.cR, h.row, h.num⟩
theorem OvSt.size (h : OvSt w A X mv qv rv R cs) : w.heap.size + 1 + 1 + 1 + 1 < X.heap.size := Nat.lt_of_lt_of_le h.sz h.st.size
theorem OvSt.setR (h : OvSt w A X mv qv rv R cs) {rv' : Value} {R' : Nat} (hn : IsNew (w.heap.size + 1 + 1 + 1 + 1) X.heap.size X rv' R') : OvSt w A (X.setCell ⟨w.heap.size + 1 + 1, 0, none⟩ rv') mv qv rv' R' cs :=
  ⟨h.st.set _ (by omega) (by omega), h.sz, h.base, Boxed.far h.cM (by simp; omega) _, Boxed.far h.cQ (by simp) _, h.cR.set _, h.row.far (by simp) _, by rw [setCell_size]; exact hn.set_far (by simp) _⟩
theorem OvSt.setQ (h : OvSt w A X mv qv rv R cs) (k : Nat) (u : Value) : OvSt w A (X.setCell ⟨w.heap.size + 1 + 1 + 1, k, none⟩ u) mv qv rv R (cs.setIfInBounds k u) :=
  ⟨h.st.trans ⟨KeepsOthers.setCell _ _ _, ⟨(Below.refl _ _).setCell (p := ⟨w.heap.size + 1 + 1 + 1, k, none⟩) (by simp; omega) u, World.cell?_of_block (a := ⟨w.heap.size + 1 + 1 + 1 + 1, 0, none⟩) (Below.heap_setCell X ⟨w.heap.size + 1 + 1 + 1, k, none⟩ u _ (by simp))⟩, by rw [setCell_size]; exact Nat.le_refl _⟩,
    h.sz, h.base, Boxed.far h.cM (by simp; omega) _, Boxed.far h.cQ (by simp) _, Boxed.far h.cR (by simp) _, h.row.set_ k u, by rw [setCell_size]; exact h.num.set_far (by simp) _⟩
theorem OvSt.alloc (h : OvSt w A X mv qv rv R cs) (o : Obj) : OvSt w A (X.alloc o) mv qv rv R cs := h.call ((Below.refl _ _).alloc (Nat.le_refl _) o)
end

/-- The loop's word between two rounds. -/
def OvI (w : World) (mv qv : Value) (a b k : Nat) (W : World) : Prop :=
  ∃ (z : List Nat) (rv : Value), ((Boxed W w.heap.size 92 mv ∧ Boxed W (w.heap.size + 1) 92 qv) ∧ (Boxed W (w.heap.size + 1 + 1) 92 rv ∧ Blk W (w.heap.size + 1 + 1 + 1) 3 (qrow k z))) ∧
    (IsNew (w.heap.size + 1 + 1 + 1 + 1) W.heap.size W rv (Num.hi a k % b) ∧ Below w.heap.size w W) ∧ Hid (z.length + k = Num.gl a ∧ Num.Dig z ∧ Num.val z = Num.hi a k / b)
theorem OvI.turns {w : World} {mv qv : Value} {a b k B : Nat} (hB : w.heap.size ≤ B) : Turns B (OvI w mv qv a b k) :=
  Turns.ex fun _ => Turns.ex fun _ => Turns.and (Turns.and (Turns.and Turns.boxed Turns.boxed) (Turns.and Turns.boxed Turns.blk)) (Turns.and (Turns.and Turns.new (Turns.below (Nat.le_refl _) hB)) Turns.const)

theorem OvI.state {w W : World} {mv qv : Value} {a b k : Nat} (h : OvI w mv qv a b k W) (hs : w.heap.size + 1 + 1 + 1 + 1 < W.heap.size) :
    ∃ (z : List Nat) (rv : Value), OvSt w W W mv qv rv (Num.hi a k % b) (qrow k z) ∧ Hid (z.length + k = Num.gl a ∧ Num.Dig z ∧ Num.val z = Num.hi a k / b) := by
  obtain ⟨z, rv, ⟨⟨h1, h2⟩, h3, h4⟩, ⟨h5, h6⟩, h7⟩ := h
  exact ⟨z, rv, ⟨Step.refl W, hs, h6, h1, h2, h3, h4, h5⟩, h7⟩
theorem OvSt.word {w A X : World} {mv qv rv : Value} {a b k d c R : Nat} {z : List Nat} (h : OvSt w A X mv qv rv R (qrow k (c :: z))) (hb : 0 < b) (hd : d < 10000) (hS : Num.hi a k = d + 10000 * Num.hi a (k + 1))
    (hz : z.length + (k + 1) = Num.gl a ∧ Num.Dig z ∧ Num.val z = Num.hi a (k + 1) / b) (hc : c = (d + 10000 * (Num.hi a (k + 1) % b)) / b) (hR : R = d + 10000 * (Num.hi a (k + 1) % b) - b * c) (B : Nat) :
    KeepsFrom B A X ∧ KpB w.heap.size (w.heap.size + 1 + 1 + 1 + 1) A X ∧ OvI w mv qv a b k X := by
  refine ⟨h.st.keeps.from _, h.st.kp, c :: z, rv, ⟨⟨h.cM, h.cQ⟩, h.cR, h.row⟩, ⟨?_, h.below⟩, ?_, ?_, ?_⟩
  · have e : Num.hi a k % b = R := by
      rw [hS, mod_step, hR, hc]
      have := Nat.div_add_mod (d + 10000 * (Num.hi a (k + 1) % b)) b
      omega
    rw [e]
    exact h.num
  · have := hz.1; simp; omega
  · intro x hx
    rcases List.mem_cons.1 hx with rfl | hx
    · rw [hc]; exact digit_step hb hd
    · exact hz.2.1 x hx
  · show c + 10000 * Num.val z = _
    rw [hz.2.2, hS, div_step hb, hc]
    omega
end Go.Proofs.YtkihodadopcioaaGreatDoor
