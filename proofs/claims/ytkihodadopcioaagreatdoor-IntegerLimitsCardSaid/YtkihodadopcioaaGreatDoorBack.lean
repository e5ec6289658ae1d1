/- A range over slices.Backward: the iterator's contract, and one rule for the loop: rounds at the indices from the last down to 0. -/
import Derived.Test.YtkihodadopcioaaGreatDoorBase
import Derived.RangeFuncBox
import Derived.RangeFuncLeaves
import Derived.RangeFuncCalls
import Derived.Shelf.Abstract
import Derived.OwnWalkIn
import Derived.TacticsInMore
import Derived.LoopNIn
import Derived.LoopIn
import Derived.Lib.Hide
namespace Go.Proofs.YtkihodadopcioaaGreatDoor
open Go.RowKit Go.Shelf

attribute [local go_sem] Oper.semAt_some

/-- What a round keeps: whatever lies below n₁, and the iterator's own box. -/
def KpB (n₁ Bs : Nat) (A B : World) : Prop := Below n₁ A B ∧ B.cell? ⟨Bs, 0, none⟩ = A.cell? ⟨Bs, 0, none⟩
theorem KpB.trans {n₁ Bs : Nat} {A B C : World} (h : KpB n₁ Bs A B) (k : KpB n₁ Bs B C) : KpB n₁ Bs A C := ⟨h.1.trans k.1, k.2.trans h.2⟩
theorem KpB.refl (n₁ Bs : Nat) (A : World) : KpB n₁ Bs A A := ⟨Below.refl _ _, rfl⟩
theorem KpB.put {n₁ Bs : Nat} {A : World} {l : Nat} {o : Obj} (o' : Obj) (hn : n₁ ≤ l) (hB : Bs < l) (h : A.heap[l]? = some o) : KpB n₁ Bs A (A.putObj l o') :=
  ⟨(Below.refl n₁ A).grown (grownBy_putObj' A l o') (by have := (Array.getElem?_eq_some_iff.1 h).1; omega) (fun k e => by cases e; omega), World.cell?_of_block (a := ⟨Bs, 0, none⟩) (World.putObj_heap_other (by simp; omega))⟩

set_option maxRecDepth 100000 in
set_option maxHeartbeats 2000000 in
/-- slices.Backward's closure, at a loop body that keeps the slice. -/
theorem back1_in (n : Nat) (hn : 1 ≤ n) (l Bs n₁ : Nat) (a : Option Addr) (cap : Nat) (zs : List Nat) (hlen : zs.length ≤ 1000000000) (J : Nat → World → Prop) (Jx : World → Prop)
    (hY : ∀ k d W, zs[k]? = some d → J (k + 1) W → YieldAt Fence.wide (n - 1) Tryz.prog l #[.int .i64 (k : Int), dv d] W fun e W' =>
      (e = .returned (.bool true) ∧ J k W' ∧ KpB n₁ Bs W W') ∨ (e = .returned (.bool false) ∧ Jx W'))
    (W : World) (hBs : W.cell? ⟨Bs, 0, none⟩ = some (.slice a zs.length cap)) (hr : Row n₁ W a zs) (h0 : J zs.length W) :
    CallsIn Fence.wide n Tryz.prog 156 #[.func (.yield l) #[] #[], .pointer (some ⟨Bs, 0, none⟩)] W fun e W' => (∃ v, e = .returned v) ∧ (J 0 W' ∨ Jx W') := by
  have hro : Fence.wide.round = none := rfl
  refine callsIn_of_wp Tryz.func156 rfl trivial ?_ hro
  simp only [Tryz.ntmps156, List.size_toArray, List.length_cons, List.length_nil, Nat.reduceAdd, Nat.reduceSub, Array.replicate_succ, Array.replicate_zero, List.push_toArray, List.append_toArray, List.nil_append, List.cons_append]
  gi_wp2
  gi_loopw [3] (fun i wr => ∃ k : Nat, k ≤ zs.length ∧ i = .int .i64 ((k : Int) - 1) ∧ J k wr ∧ KpB n₁ Bs W wr)
    (fun i _ => (intOf i + 1).toNat)
  case atStart => exact ⟨zs.length, Nat.le_refl _, rfl, h0, KpB.refl _ _ _⟩
  case round =>
    obtain ⟨k, hk, rfl, hJs, hnx⟩ := hrel
    cases k with
    | zero =>
      gi_wp2
      go_end0
      exact ⟨⟨_, rfl⟩, .inl hJs⟩
    | succ k =>
      obtain ⟨d, hd⟩ : ∃ d, zs[k]? = some d := ⟨zs[k]'(by omega), List.getElem?_eq_getElem _⟩
      obtain ⟨b, o, rfl, hb, hc⟩ := hr (by intro e; rw [e] at hd; simp at hd)
      have hcx : wr.cell? ⟨b, o + k, none⟩ = some (dv d) := (hnx.1.cell (p := ⟨b, o + k, none⟩) hb).trans (hc k d hd)
      have hBx : wr.cell? ⟨Bs, 0, none⟩ = some (.slice (some ⟨b, o, none⟩) zs.length cap) := hnx.2.trans hBs
      obtain ⟨fn, tmps, assign, body, hy, hR⟩ := hY k d wr hd hJs
      have GD := Lib.hid hd
      have GR := Lib.hid hR
      have e1 : ((k + 1 : Nat) : Int) - 1 = (k : Int) := by omega
      rw [e1]
      clear hd hc hr hY hBs hR e1
      gi_wp2
      refine GR.out.mono ?_
      rintro e W3 (⟨rfl, hJ3, hk3⟩ | ⟨rfl, hJx3⟩)
      · gi_wp2
        go_roundw
        case rel => exact ⟨k, by omega, rfl, hJ3, hnx.trans hk3⟩
        case measure => simp [intOf]
      · gi_wp2
        refine bodyPost_ret (results_none rfl _ _ _) rfl ?_
        exact ⟨⟨_, rfl⟩, .inr hJx3⟩

/-- The slice is boxed; the function value captures the box. -/
theorem backward_any (a : Option Addr) (len cap : Nat) (w : World) :
    Calls Tryz.prog 121 #[.slice a len cap] w fun e w' => e = .returned (.func (.func 156) #[] #[.pointer (some ⟨w.heap.size, 0, none⟩)]) ∧ w' = w.alloc (.cells #[.slice a len cap] 92) := by
  go_enter Tryz.func121, Tryz.ntmps121
  go_wp2
  go_ret
  exact ⟨rfl, rfl⟩

/-- What is said of the world abides the turn of a block that is no cells and lies from B on. -/
def Turns (B : Nat) (I : World → Prop) : Prop := ∀ W W' row, I W → W.grownBy W' row → (∀ r, row = some r → B ≤ r ∧ ∃ o : Obj, W.heap[r]? = some o ∧ o.isCells = false) → I W'
theorem Turns.put {B : Nat} {I : World → Prop} (h : Turns B I) {W : World} {l : Nat} {o : Obj} (o' : Obj) (hs : I W) (hB : B ≤ l) (hl : W.heap[l]? = some o) (ho : o.isCells = false) : I (W.putObj l o') :=
  h W _ (some l) hs (grownBy_putObj' W l o') (fun r e => by cases e; exact ⟨hB, o, hl, ho⟩)
theorem Turns.alloc {B : Nat} {I : World → Prop} (h : Turns B I) {W : World} (o : Obj) (hs : I W) : I (W.alloc o) :=
  h W _ none hs (World.grownBy_alloc W o none) (fun r e => by cases e)
theorem Turns.and {B : Nat} {I I' : World → Prop} (h : Turns B I) (h' : Turns B I') : Turns B (fun W => I W ∧ I' W) := fun W W' row hs hg hr => ⟨h W W' row hs.1 hg hr, h' W W' row hs.2 hg hr⟩
theorem Turns.const {B : Nat} {p : Prop} : Turns B (fun _ => p) := fun _ _ _ h _ _ => h
theorem Turns.boxed {B b : Nat} {t : TypeId} {v : Value} : Turns B (fun W => Boxed W b t v) := fun _ _ _ h hg hr => h.kept hg (fun e => by
  obtain ⟨_, o, ho, hc⟩ := hr b e.symm
  rw [show _ = _ from h] at ho; cases ho; cases hc)
theorem Turns.below {B n₀ : Nat} {w₀ : World} (hn : n₀ ≤ w₀.heap.size) (hB : n₀ ≤ B) : Turns B (fun W => Below n₀ w₀ W) :=
  fun _ _ _ hs hg hr => hs.grown hg (Nat.le_trans hn hs.size) (fun k e => Nat.le_trans hB (hr k e).1)

/-- How a round may be left: it goes on, or it returns. -/
def BackPost (B n₁ Bs : Nat) (I : World → Prop) (Ix : World → Prop) (W : World) : Exit → Act → World → Prop
  | .normal, _, W' => KeepsFrom B W W' ∧ KpB n₁ Bs W W' ∧ I W'
  | .ret, _, W' => KeepsFrom B W W' ∧ Ix W'
  | _, _, _ => False

/-- ONE RULE FOR A LOOP OVER slices.Backward: 'I k': k groups are still to come; 'Ix': a round has returned. -/
theorem wpIn_back {g : Operand} {ps : Array Tmp} {assign body : Code} {Q : Exit → Act → World → Prop} {a : Act} {w : World} (n : Nat) (hn : 2 ≤ n)
    (Bs n₁ : Nat) (A : Option Addr) (cap : Nat) (zs : List Nat) (hlen : zs.length ≤ 1000000000)
    (hg : a.eval g = .func (.func 156) #[] #[.pointer (some ⟨Bs, 0, none⟩)]) (hps : ps.size = 2)
    (hBs : w.cell? ⟨Bs, 0, none⟩ = some (.slice A zs.length cap)) (hn₁ : n₁ ≤ w.heap.size) (hrow : Row n₁ w A zs)
    (I : Nat → World → Prop) (Ix : World → Prop) (hI : ∀ k, Turns w.heap.size (I k)) (hIx : Turns w.heap.size Ix) (h0 : I zs.length w) (a₁ : Nat → Nat → Act)
    (hassign : ∀ (l k d : Nat) (W : World) (K : Act → World → Prop), K (a₁ k d) W →
      assign.wpIn (Fence.wide.inRound l) (n - 1 - 1) Tryz.prog (Exit.then K (fun _ _ _ => False)) { tmps := (ps.zip #[.int .i64 (k : Int), dv d]).foldl (fun t (p, v) => t.setIfInBounds p v) a.tmps, defers := [] } W)
    (hbody : ∀ (l k d : Nat) (W : World), zs[k]? = some d → I (k + 1) W → Below n₁ w W → body.wpIn (Fence.wide.inRound l) (n - 1 - 1) Tryz.prog (BackPost w.heap.size n₁ Bs (I k) Ix W) (a₁ k d) W)
    (hdone : ∀ (D : Nat) (W : World), w.heap.size ≤ D → I 0 W → W.heap[D]? = some (.deferred (some [])) → Q .normal { a with defers := { target := .collected D, args := #[] } :: a.defers } W)
    (hstop : ∀ (D : Nat) (W : World), w.heap.size ≤ D → Ix W → W.heap[D]? = some (.deferred (some [])) → Code.ret.wpIn Fence.wide n Tryz.prog Q { a with defers := { target := .collected D, args := #[] } :: a.defers } W) :
    (Code.rangeFunc g ps assign body).wpIn Fence.wide n Tryz.prog Q a w := by
  refine wpIn_rangeFunc ?_
  intro fn hfn
  obtain ⟨rec, hrec⟩ : ∃ rec : LoopState → Option Code → Loop, rec = fun st pe => { state := st, pending := pe, fn, tmps := a.tmps, params := ps, assign, body, defers := w.heap.size } := ⟨_, rfl⟩
  obtain ⟨W1, hW1⟩ : ∃ W1, (w.alloc (.deferred (some []))).alloc (.loop (rec .ready none)) = W1 := ⟨_, rfl⟩
  have hBsl : Bs < w.heap.size := World.block_lt_of_cell? w ⟨Bs, 0, none⟩ hBs
  have hL1 : W1.heap[w.heap.size + 1]? = some (.loop (rec .ready none)) := by
    rw [← hW1]; have := World.alloc_heap_new (w.alloc (.deferred (some []))) (.loop (rec .ready none)); rwa [World.size_alloc] at this
  have hK1 : W1.heap[w.heap.size]? = some (.deferred (some [])) := by
    rw [← hW1]; exact (Below.heap_alloc _ _ _ (by simp)).trans (World.alloc_heap_new w _)
  have hb1 : Below w.heap.size w W1 := by rw [← hW1]; exact ((Below.refl _ w).alloc (Nat.le_refl _) _).alloc (by simp) _
  have hI1 : I zs.length W1 := by rw [← hW1]; exact (hI _).alloc _ ((hI _).alloc _ h0)
  have e1 : ∀ args w, (callFunc 156 args).run Tryz.prog w = .ok (.enter 156 args) w := enters_of Tryz.func156 (by kernel_rfl) rfl
  refine ⟨w.heap.size + 1, [{ target := .collected w.heap.size, args := #[] }], W1, { target := .fn (.func 156) #[.pointer (some ⟨Bs, 0, none⟩)], args := #[.func (.yield (w.heap.size + 1)) #[] #[]] }, W1, 156,
    #[.func (.yield (w.heap.size + 1)) #[] #[]] ++ #[.pointer (some ⟨Bs, 0, none⟩)], W1, ?_, ?_, ?_, ?_, fun _ => by omega, ?_⟩
  · rw [← hW1, hrec]; exact run_enterLoop_outer _ _ _ _ _
  · simp only [resolve, hg]
    simp [go_sem]
  · intro f' _; exact trivial
  · simp [invoke, go_sem, e1]
  · refine (back1_in (n - 1) (by omega) (w.heap.size + 1) Bs n₁ A cap zs hlen
      (fun k W => (I k W ∧ Below n₁ w W) ∧ W.heap[w.heap.size + 1]? = some (.loop (rec .ready none)) ∧ W.heap[w.heap.size]? = some (.deferred (some [])))
      (fun W => Ix W ∧ W.heap[w.heap.size + 1]? = some (.loop (rec .done (some .ret))) ∧ W.heap[w.heap.size]? = some (.deferred (some [])))
      ?_ W1 ((hb1.cell (p := ⟨Bs, 0, none⟩) hBsl).trans hBs) (hrow.below (hb1.mono hn₁)) ⟨⟨hI1, hb1.mono hn₁⟩, hL1, hK1⟩).mono ?_
    · rintro k d W hd ⟨⟨hi, hbw⟩, hl, hk⟩
      have hlt : w.heap.size + 1 < W.heap.size := (Array.getElem?_eq_some_iff.1 hl).1
      have hy := run_yield (P := Tryz.prog) (args := #[.int .i64 (k : Int), dv d]) hl (by rw [hrec]; exact hps.symm)
      rw [hrec] at hy
      refine ⟨fn, _, assign, body, hy, roundIn_of_wpIn hfn (hassign _ k d W _ ⟨_, run_beginRound hl (by rw [hrec]), ?_⟩)⟩
      have hl2 : (W.putObj (w.heap.size + 1) (.loop { rec .ready none with state := .busy })).heap[w.heap.size + 1]? = some (.loop { rec .ready none with state := .busy }) := World.putObj_heap_same hlt
      have hk2 : (W.putObj (w.heap.size + 1) (.loop { rec .ready none with state := .busy })).heap[w.heap.size]? = some (.deferred (some [])) := (World.putObj_heap_other (by omega)).trans hk
      have hw2 : KpB n₁ Bs W (W.putObj (w.heap.size + 1) (.loop { rec .ready none with state := .busy })) := KpB.put _ (by omega) (by omega) hl
      refine wpIn_mono (hbody _ k d _ hd ((hI _).put _ hi (by omega) hl rfl) (hbw.trans hw2.1)) ?_
      have fin : ∀ (jump : Option Code) (W3 : World), KeepsFrom w.heap.size (W.putObj (w.heap.size + 1) (.loop { rec .ready none with state := .busy })) W3 →
          (Instr.endRound (w.heap.size + 1) jump).run Tryz.prog W3 = .ok (.bool jump.isNone) (W3.putObj (w.heap.size + 1) (.loop (rec (if jump.isNone then .ready else .done) jump))) ∧
          W3.heap[w.heap.size + 1]? = some (.loop { rec .ready none with state := .busy }) ∧
          (W3.putObj (w.heap.size + 1) (.loop (rec (if jump.isNone then .ready else .done) jump))).heap[w.heap.size + 1]? = some (.loop (rec (if jump.isNone then .ready else .done) jump)) ∧
          (W3.putObj (w.heap.size + 1) (.loop (rec (if jump.isNone then .ready else .done) jump))).heap[w.heap.size]? = some (.deferred (some [])) := fun jump W3 hk3 => by
        have hl3 := hk3.same _ _ (by omega) hl2 rfl
        have := run_endRound (P := Tryz.prog) jump hl3
        rw [hrec] at this ⊢
        exact ⟨this, by rw [hrec] at hl3; exact hl3, World.putObj_heap_same (Array.getElem?_eq_some_iff.1 hl3).1, (World.putObj_heap_other (by omega)).trans (hk3.same _ _ (by omega) hk2 rfl)⟩
      rintro e a3 W3 hp
      cases e with
      | normal =>
        obtain ⟨hk3, hkp3, hi3⟩ := hp
        obtain ⟨hr, hl3, hl4, hk4⟩ := fin none W3 hk3
        have hw4 : KpB n₁ Bs W3 (W3.putObj (w.heap.size + 1) (.loop (rec .ready none))) := KpB.put _ (by omega) (by omega) hl3
        exact ⟨_, _, hr, .inl ⟨rfl, ⟨⟨(hI _).put _ hi3 (by omega) hl3 rfl, ((hbw.trans hw2.1).trans hkp3.1).trans hw4.1⟩, hl4, hk4⟩, (hw2.trans hkp3).trans hw4⟩⟩
      | ret =>
        obtain ⟨hk3, hi3⟩ := hp
        obtain ⟨hr, hl3, hl4, hk4⟩ := fin (some .ret) W3 hk3
        exact ⟨_, _, hr, .inr ⟨rfl, hIx.put _ hi3 (by omega) hl3 rfl, hl4, hk4⟩⟩
      | exit id => exact hp.elim
      | goto t => exact hp.elim
      | panic ch => exact hp.elim
      | outgrown => exact hp.elim
    · rintro e W2 ⟨⟨v, rfl⟩, (⟨⟨hi, _⟩, hl, hk⟩ | ⟨hi, hl, hk⟩)⟩
      · exact ⟨none, _, by have := run_endLoop (P := Tryz.prog) hl (by rw [hrec]; simp); rw [hrec] at this; exact this, hdone _ _ (Nat.le_refl _) ((hI _).put _ hi (by omega) hl rfl) ((World.putObj_heap_other (by omega)).trans hk)⟩
      · exact ⟨some .ret, _, by have := run_endLoop (P := Tryz.prog) hl (by rw [hrec]; simp); rw [hrec] at this; exact this, hstop _ _ (Nat.le_refl _) (hIx.put _ hi (by omega) hl rfl) ((World.putObj_heap_other (by omega)).trans hk)⟩
end Go.Proofs.YtkihodadopcioaaGreatDoor
