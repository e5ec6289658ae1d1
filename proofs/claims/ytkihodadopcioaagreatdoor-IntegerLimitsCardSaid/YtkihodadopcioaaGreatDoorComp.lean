/- 'compare': the order of two absolute values. -/
import Derived.Test.YtkihodadopcioaaGreatDoorBack
import Derived.Test.YtkihodadopcioaaGreatDoorFold
namespace Go.Proofs.YtkihodadopcioaaGreatDoor
open Go.RowKit Go.Shelf

attribute [local go_sem] Oper.semAt_some

/-- -1, 0 or 1. -/
def sgn (x y : Int) : Int := if x < y then -1 else if y < x then 1 else 0
theorem sgn_lt {x y : Int} (h : x < y) : sgn x y = -1 := by unfold sgn; rw [if_pos h]
theorem sgn_gt {x y : Int} (h : y < x) : sgn x y = 1 := by unfold sgn; rw [if_neg (by omega), if_pos h]
theorem sgn_eq {x y : Int} (h : x = y) : sgn x y = 0 := by unfold sgn; rw [if_neg (by omega), if_neg (by omega)]

set_option maxHeartbeats 400000 in
theorem cmp_lt (x y : Int) (w : World) (h : x < y) : Calls Tryz.prog 126 #[.int .i64 x, .int .i64 y] w fun e w' => e = .returned (.int .i64 (-1)) ∧ w = w' := by
  go_enter Tryz.func126, Tryz.ntmps126
  go_wp2
  go_ret
  exact ⟨rfl, rfl⟩
set_option maxHeartbeats 400000 in
theorem cmp_gt (x y : Int) (w : World) (h : y < x) : Calls Tryz.prog 126 #[.int .i64 x, .int .i64 y] w fun e w' => e = .returned (.int .i64 1) ∧ w = w' := by
  go_enter Tryz.func126, Tryz.ntmps126
  go_wp2
  go_ret
  exact ⟨rfl, rfl⟩
set_option maxHeartbeats 400000 in
theorem cmp_eq (x : Int) (w : World) : Calls Tryz.prog 126 #[.int .i64 x, .int .i64 x] w fun e w' => e = .returned (.int .i64 0) ∧ w = w' := by
  go_enter Tryz.func126, Tryz.ntmps126
  go_wp2
  go_ret
  exact ⟨rfl, rfl⟩
theorem cmp_any (x y : Int) (w : World) : Calls Tryz.prog 126 #[.int .i64 x, .int .i64 y] w fun e w' => e = .returned (.int .i64 (sgn x y)) ∧ w = w' := by
  rcases Int.lt_trichotomy x y with h | h | h
  · rw [sgn_lt h]; exact cmp_lt x y w h
  · subst h; rw [sgn_eq rfl]; exact cmp_eq x w
  · rw [sgn_gt h]; exact cmp_gt x y w h

theorem sgn_cast (x y : Nat) : sgn (x : Int) (y : Int) = if x < y then -1 else if y < x then 1 else 0 := by
  unfold sgn
  by_cases h : x < y
  · rw [if_pos h, if_pos (by omega)]
  · rw [if_neg h, if_neg (by omega)]
    by_cases h' : y < x
    · rw [if_pos h', if_pos (by omega)]
    · rw [if_neg h', if_neg (by omega)]

set_option maxRecDepth 100000 in
set_option maxHeartbeats 1000000 in
theorem compare_lens (a1 a2 : Option Addr) (l1 l2 c1 c2 : Nat) (w : World) (h : l1 ≠ l2) :
    Calls Tryz.prog 72 #[.slice a1 l1 c1, .slice a2 l2 c2] w fun e w' => e = .returned (.int .i64 (sgn l1 l2)) ∧ Below w.heap.size w w' := by
  have hne : ((l1 : Int) != (l2 : Int)) = true := by rw [bne_iff_ne]; omega
  have hne2 : (l1 != l2) = true := by simpa using h
  have HC := fun W => Lib.hid (cmp_any l1 l2 W)
  go_enter Tryz.func72, Tryz.ntmps72
  go_wp2_with fail
  refine (HC _).out.mono ?_
  rintro e w' ⟨rfl, rfl⟩
  go_wp2
  refine bodyPost_ret (v := .int .i64 (sgn l1 l2)) (by simp [results, Tryz.results72, go_sem]) rfl ⟨rfl, ?_⟩
  exact (((Below.refl _ _).alloc (Nat.le_refl _) _).alloc (by simp) _)

/-- The loop's word: the groups from k on are equal. -/
def CmpI (w : World) (v2 : Value) (a b : Nat) (k : Nat) (W : World) : Prop :=
  ((Boxed W w.heap.size 92 v2 ∧ (∃ r, Boxed W (w.heap.size + 1) 3 r)) ∧ Below w.heap.size w W) ∧ Hid ((Num.grp a).drop k = (Num.grp b).drop k)
def CmpX (w : World) (a b : Nat) (W : World) : Prop := Boxed W (w.heap.size + 1) 3 (.int .i64 (sgn a b)) ∧ Below w.heap.size w W

theorem CmpI.turns {w : World} {v2 : Value} {a b k B : Nat} (hB : w.heap.size ≤ B) : Turns B (CmpI w v2 a b k) :=
  Turns.and (Turns.and (Turns.and Turns.boxed (fun W W' row ⟨r, h⟩ hg hr => ⟨r, Turns.boxed W W' row h hg hr⟩)) (Turns.below (Nat.le_refl _) hB)) Turns.const
theorem CmpX.turns {w : World} {a b B : Nat} (hB : w.heap.size ≤ B) : Turns B (CmpX w a b) := Turns.and Turns.boxed (Turns.below (Nat.le_refl _) hB)

set_option maxRecDepth 100000 in
set_option maxHeartbeats 2000000 in
theorem compare_same (a1 a2 : Option Addr) (len c1 c2 : Nat) (w : World) (a b : Nat) (hla : Hid (Num.gl a = len)) (hlb : Hid (Num.gl b = len)) (hlen : len ≤ 1000000000) (h1 : Row w.heap.size w a1 (Num.grp a)) (h2 : Row w.heap.size w a2 (Num.grp b)) :
    Calls Tryz.prog 72 #[.slice a1 len c1, .slice a2 len c2] w fun e w' => e = .returned (.int .i64 (sgn a b)) ∧ Below w.heap.size w w' := by
  have HR := Lib.hid h1
  have HR2 := Lib.hid h2
  clear h1 h2
  refine (callsIn_wide (n := 5)).1 ?_
  refine callsIn_of_wp_marks Tryz.func72 rfl trivial ?_ rfl
  simp only [Tryz.ntmps72, List.size_toArray, List.length_cons, List.length_nil, Nat.reduceAdd, Nat.reduceSub, Array.replicate_succ, Array.replicate_zero, List.push_toArray, List.append_toArray, List.nil_append, List.cons_append]
  gi_wp2_with (refine ⟨trivial, ?_⟩; gi_at_call 121; refine (callsIn_wide.2 (backward_any _ _ _ _)).mono ?_; rintro e w' ⟨rfl, rfl⟩)
  have bM := Boxed.new w 92 (.slice a2 len c2)
  have bR := Boxed.new (w.alloc (.cells #[.slice a2 len c2] 92)) 3 (.int .i64 0)
  have bN := Boxed.new ((w.alloc (.cells #[.slice a2 len c2] 92)).alloc (.cells #[.int .i64 0] 3)) 92 (.slice a1 len c1)
  rw [World.size_alloc] at bR
  rw [World.size_alloc, World.size_alloc] at bN
  have hB0 : Below w.heap.size w (((w.alloc (.cells #[.slice a2 len c2] 92)).alloc (.cells #[.int .i64 0] 3)).alloc (.cells #[.slice a1 len c1] 92)) := (((Below.refl _ w).alloc (Nat.le_refl _) _).alloc (by simp) _).alloc (by simp; omega) _
  have hlz : (Num.grp a).length = len := hla.out
  refine wpIn_back 5 (by omega) (w.heap.size + 1 + 1) w.heap.size a1 c1 (Num.grp a) (by omega) rfl rfl (by rw [hlz]; exact bN.cell) hB0.size (HR.out.below hB0)
    (CmpI w (.slice a2 len c2) a b) (CmpX w a b) (fun k => CmpI.turns hB0.size) (CmpX.turns hB0.size)
    ⟨⟨⟨(bM.alloc _).alloc _, _, bR.alloc _⟩, hB0⟩, Lib.hid (by rw [List.drop_length, List.drop_eq_nil_of_le (by have := hlb.out; unfold Num.gl at this; omega)])⟩
    (fun k d => { tmps := #[.slice a1 len c1, .slice a2 len c2, undef, .pointer (some ⟨w.heap.size, 0, none⟩), .pointer (some ⟨w.heap.size + 1, 0, none⟩), .int .i64 (k : Int), dv d, .slice a1 len c1, .int .i64 (len : Int), .slice a2 len c2, .int .i64 (len : Int), .bool false, undef, undef, undef, undef, undef, .slice a1 len c1,
          .func (.func 156) #[] #[.pointer (some ⟨w.heap.size + 1 + 1, 0, none⟩)], .int .i64 (k : Int), dv d, undef, undef, undef, undef, undef, undef, undef, undef, undef, undef, undef, undef], defers := [] }) ?assign ?body ?done ?stop
  case assign =>
    intro l k d W K hK
    gi_wp2
    exact hK
  case body =>
    rintro l k d W hd ⟨⟨⟨cM, r, cR⟩, hB⟩, HI⟩ _
    have hkl : k < len := by rw [← hlz]; exact (List.getElem?_eq_some_iff.1 hd).1
    obtain ⟨d', hd'⟩ : ∃ d', (Num.grp b)[k]? = some d' := ⟨(Num.grp b)[k]'(by have := hlb.out; unfold Num.gl at this; omega), List.getElem?_eq_getElem _⟩
    obtain ⟨b2, o2, rfl, hb2, hc2⟩ := HR2.out (by intro e; rw [e] at hd'; simp at hd')
    have hcm : W.cell? ⟨b2, o2 + k, none⟩ = some (dv d') := (hB.cell (p := ⟨b2, o2 + k, none⟩) hb2).trans (hc2 k d' hd')
    have GD := Lib.hid hd
    have GD' := Lib.hid hd'
    have GC := fun W => Lib.hid (cmp_any d d' W)
    have hM := cM.cell
    have hR := cR.cell
    have hRf := cR.frozen
    clear hd hd' hc2 bN hB0
    by_cases hdd : d = d'
    · subst hdd
      gi_wp2
      exact ⟨KeepsFrom.refl _ _, KpB.refl _ _ _, ⟨⟨cM, r, cR⟩, hB⟩, Lib.hid (Num.drop_of_eq GD.out GD'.out HI.out)⟩
    · have hne : ((d : Int) != (d' : Int)) = true := by rw [bne_iff_ne]; omega
      gi_wp2_with fail
      refine ⟨trivial, (CallsIn.inRound l (callsIn_wide.2 (GC _).out)).mono ?_⟩
      rintro e w' ⟨rfl, rfl⟩
      gi_wp2
      have hs : sgn (d : Int) (d' : Int) = sgn (a : Int) (b : Int) := by
        rw [sgn_cast, sgn_cast]
        have hl := hla.out.trans hlb.out.symm
        rcases Nat.lt_or_ge d d' with h | h
        · have := Num.lt_of_top hl GD.out GD'.out HI.out h
          rw [if_pos h, if_pos this]
        · have h' : d' < d := by omega
          have := Num.lt_of_top hl.symm GD'.out GD.out HI.out.symm h'
          rw [if_neg (by omega), if_pos h', if_neg (by omega), if_pos this]
      rw [hs]
      exact ⟨(KeepsOthers.setCell _ _ _).from _, cR.set _, hB.setCell (p := ⟨w.heap.size + 1, 0, none⟩) (by simp) _⟩
  case done =>
    rintro D W hD ⟨⟨⟨cM, r, cR⟩, hB⟩, HI⟩ hK
    have hR := cR.cell
    have hRf := cR.frozen
    have hab : a = b := Num.eq_of_grp (by have := HI.out; simpa using this)
    gi_wp2
    have hK' := (KeepsOthers.setCell W ⟨w.heap.size + 1, 0, none⟩ (.int .i64 0)).same D _ hK rfl
    refine ⟨by simp, .inl ⟨_, _, rfl, run_takeDeferred hK', ?_⟩⟩
    have hc5 := ((cR.set (.int .i64 0)).kept (grownBy_putObj' _ D (.deferred none)) (by have := cR.set (.int .i64 0); intro e; cases e; rw [show _ = _ from this] at hK'; cases hK')).cell
    refine ⟨.int .i64 0, ?_, by rw [hab, sgn_eq rfl], (hB.setCell (p := ⟨w.heap.size + 1, 0, none⟩) (by simp) _).trans (belowK_b (w := w) (Nat.le_refl _) _ D _ _ (by simp at hD; omega) hK' rfl rfl)⟩
    simp [results, Tryz.f72, go_sem, hc5]
  case stop =>
    rintro D W hD ⟨bR, hB⟩ hK
    gi_wp2
    refine ⟨by simp, .inl ⟨_, _, rfl, run_takeDeferred hK, ?_⟩⟩
    have hc5 := (bR.kept (grownBy_putObj' _ D (.deferred none)) (by intro e; cases e; rw [show _ = _ from bR] at hK; cases hK)).cell
    refine ⟨.int .i64 (sgn a b), ?_, rfl, hB.trans (belowK_b (w := w) (Nat.le_refl _) _ D _ _ (by simp at hD; omega) hK rfl rfl)⟩
    simp [results, Tryz.f72, go_sem, hc5]

/-- 'compare': -1, 0 or 1. -/
theorem compare_any (w : World) (v1 v2 : Value) (a b : Nat) (ha : Num.gl a ≤ 10000000) (h1 : IsNum w.heap.size w v1 a) (h2 : IsNum w.heap.size w v2 b) :
    Calls Tryz.prog 72 #[v1, v2] w fun e w' => e = .returned (.int .i64 (sgn a b)) ∧ Below w.heap.size w w' := by
  obtain ⟨a1, c1, rfl, hc1, r1⟩ := h1
  obtain ⟨a2, c2, rfl, hc2, r2⟩ := h2
  by_cases h : Num.gl a = Num.gl b
  · rw [← h]
    exact compare_same a1 a2 _ c1 c2 w a b (Lib.hid rfl) (Lib.hid h.symm) (by omega) r1 r2
  · have hs : sgn (a : Int) (b : Int) = sgn (Num.gl a : Int) (Num.gl b : Int) := by
      rw [sgn_cast, sgn_cast]
      rcases Nat.lt_or_ge (Num.gl a) (Num.gl b) with hl | hl
      · rw [if_pos hl, if_pos (Num.lt_of_gl_lt hl)]
      · have hl' : Num.gl b < Num.gl a := by omega
        have := Num.lt_of_gl_lt hl'
        rw [if_neg (by omega), if_pos (by omega), if_neg (by omega), if_pos hl']
    rw [hs]
    exact compare_lens a1 a2 _ _ c1 c2 w h
end Go.Proofs.YtkihodadopcioaaGreatDoor
