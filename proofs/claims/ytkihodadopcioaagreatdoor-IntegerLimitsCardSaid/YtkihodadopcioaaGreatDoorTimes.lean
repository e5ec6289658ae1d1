/- 'times': the product of two absolute values. -/
import Derived.Test.YtkihodadopcioaaGreatDoorBack
import Derived.Test.YtkihodadopcioaaGreatDoorKeep
import Derived.Test.YtkihodadopcioaaGreatDoorSum
import Derived.Shelf.RegionOpen
namespace Go.Proofs.YtkihodadopcioaaGreatDoor
open Go.RowKit Go.Shelf

attribute [local go_sem] Oper.semAt_some

/-- The loop's word: out is a times the groups from k on. -/
def TimI (w : World) (v1 : Value) (a b k : Nat) (W : World) : Prop :=
  (Boxed W w.heap.size 92 v1 ∧ (∃ v, Boxed W (w.heap.size + 1) 92 v ∧ IsNum W.heap.size W v (a * Num.hi b k))) ∧ Below w.heap.size w W
theorem TimI.turns {w : World} {v1 : Value} {a b k B : Nat} (hB : w.heap.size ≤ B) : Turns B (TimI w v1 a b k) :=
  Turns.and (Turns.and Turns.boxed (Turns.ex fun _ => Turns.and Turns.boxed Turns.num)) (Turns.below (Nat.le_refl _) hB)

theorem tim_next {w A W W' W'' : World} {v1 ov : Value} {a b k d X Y B : Nat} {qa : Option Addr} {qc : Nat} {ob : Option Addr} {on oc : Nat} (hA : Below w.heap.size w A) (hst : Step w.heap.size (w.heap.size + 1 + 1) A W) (hs : w.heap.size + 1 + 1 < A.heap.size)
    (cL : Boxed W w.heap.size 92 v1) (cO : Boxed W (w.heap.size + 1) 92 ov) (ho : ov = .slice ob on oc) (hb1 : Below W.heap.size W W') (hb2 : Below W'.heap.size W' W'')
    (hq : IsNum W''.heap.size W'' (.slice qa (Num.gl (Y + a * d)) qc) (Y + a * d)) (hX : Hid (X = a * Num.hi b (k + 1))) (hY : Hid (Y = 10000 * X)) (hS : Hid (Num.hi b k = d + 10000 * Num.hi b (k + 1))) :
    KeepsFrom B A (W''.setCell ⟨w.heap.size + 1, 0, none⟩ (.slice qa (Num.gl (Y + a * d)) qc)) ∧ KpB w.heap.size (w.heap.size + 1 + 1) A (W''.setCell ⟨w.heap.size + 1, 0, none⟩ (.slice qa (Num.gl (Y + a * d)) qc)) ∧
      TimI w v1 a b k (W''.setCell ⟨w.heap.size + 1, 0, none⟩ (.slice qa (Num.gl (Y + a * d)) qc)) := by
  have st := ((hst.call hb1 hA.size hs).call hb2 hA.size hs).set (C := w.heap.size + 1) (.slice qa (Num.gl (Y + a * d)) qc) (by omega) (by omega)
  have cL2 := Boxed.other (.slice qa (Num.gl (Y + a * d)) qc) (Boxed.below (Boxed.below cL hb1) hb2) (show w.heap.size ≠ w.heap.size + 1 by omega)
  have cO2 := Boxed.below (Boxed.below cO hb1) hb2
  have e : a * Num.hi b k = Y + a * d := by
    rw [hS.out, hY.out, hX.out, Nat.mul_add, Nat.mul_left_comm]; omega
  refine ⟨st.keeps.from _, st.kp, ⟨cL2, _, cO2.set _, ?_⟩, hA.trans st.kp.1⟩
  rw [setCell_size, e]
  subst ho
  exact hq.set_box cO2 _

set_option maxRecDepth 100000 in
set_option maxHeartbeats 2000000 in
theorem times_walk (w : World) (a1 a2 : Option Addr) (l1 l2 c1 c2 a b : Nat) (hla : Hid (Num.gl a = l1)) (hlb : Hid (Num.gl b = l2)) (hA : l1 ≤ 1000000) (hB : l2 ≤ 1000000)
    (h1 : IsNum w.heap.size w (.slice a1 l1 c1) a) (h2 : Row w.heap.size w a2 (Num.grp b)) :
    Calls Tryz.prog 71 #[.slice a1 l1 c1, .slice a2 l2 c2] w fun e w' => (∃ v, e = .returned v ∧ IsNum w'.heap.size w' v (a * b)) ∧ Below w.heap.size w w' := by
  have H1 := Lib.hid h1
  have H2 := Lib.hid h2
  clear h1 h2
  refine (callsIn_wide (n := 5)).1 ?_
  refine callsIn_of_wp_marks Tryz.func71 rfl trivial ?_ rfl
  simp only [Tryz.ntmps71, List.size_toArray, List.length_cons, List.length_nil, Nat.reduceAdd, Nat.reduceSub, Array.replicate_succ, Array.replicate_zero, List.push_toArray, List.append_toArray, List.nil_append, List.cons_append]
  gi_wp2_with (refine ⟨trivial, ?_⟩; gi_at_call 121; refine (callsIn_wide.2 (backward_any _ _ _ _)).mono ?_; rintro e w' ⟨rfl, rfl⟩)
  have bL := Boxed.new w 92 (.slice a1 l1 c1)
  have bO := Boxed.new (w.alloc (.cells #[.slice a1 l1 c1] 92)) 92 (.slice none 0 0)
  have bN := Boxed.new ((w.alloc (.cells #[.slice a1 l1 c1] 92)).alloc (.cells #[.slice none 0 0] 92)) 92 (.slice a2 l2 c2)
  rw [World.size_alloc] at bO
  rw [World.size_alloc, World.size_alloc] at bN
  have hB0 : Below w.heap.size w (((w.alloc (.cells #[.slice a1 l1 c1] 92)).alloc (.cells #[.slice none 0 0] 92)).alloc (.cells #[.slice a2 l2 c2] 92)) := (((Below.refl _ w).alloc (Nat.le_refl _) _).alloc (by simp) _).alloc (by simp; omega) _
  have hlz : (Num.grp b).length = l2 := hlb.out
  refine wpIn_back 5 (by omega) (w.heap.size + 1 + 1) w.heap.size a2 c2 (Num.grp b) (by omega) rfl rfl (by rw [hlz]; exact bN.cell) hB0.size (H2.out.below hB0)
    (TimI w (.slice a1 l1 c1) a b) (fun _ => False) (fun k => TimI.turns hB0.size) Turns.const
    ⟨⟨(bL.alloc _).alloc _, _, bO.alloc _, by rw [Num.hi_end, Nat.mul_zero]; exact ⟨none, 0, by rw [Num.gl_zero], by rw [Num.gl_zero]; exact Nat.le_refl _, by rw [Num.grp_zero]; exact Row.nil⟩⟩, hB0⟩
    (fun k d => { tmps := #[.slice a1 l1 c1, .slice a2 l2 c2, .pointer (some ⟨w.heap.size, 0, none⟩), undef, .slice none 0 0, .pointer (some ⟨w.heap.size + 1, 0, none⟩), undef, dv d, .slice a2 l2 c2,
          .func (.func 156) #[] #[.pointer (some ⟨w.heap.size + 1 + 1, 0, none⟩)], .int .i64 (k : Int), dv d, undef, undef, undef, undef, undef, undef, undef, undef, undef, undef, undef, undef], defers := [] }) ?assign ?body ?done ?stop
  case assign =>
    intro l k d W K hK
    gi_wp2
    exact hK
  case body =>
    rintro l k d W hd ⟨⟨cL, v, cO, hX⟩, hBw⟩ hBs
    have hsz : w.heap.size + 1 + 1 < W.heap.size := by have := hBs.size; simp at this; omega
    clear hBs
    obtain ⟨i0, hi, hz0, hz1, hz2⟩ := info_parts int_info
    have HD : d < 10000 := Num.grp_get_lt hd
    have GS := Lib.hid (Num.hi_succ hd)
    have hgh : Num.gl (Num.hi b (k + 1)) ≤ l2 := hlb.out ▸ Num.gl_mono (Num.hi_le b _)
    have hgX : Num.gl (a * Num.hi b (k + 1)) ≤ 2000000 := by have := Num.gl_mul a (Num.hi b (k + 1)); have := hla.out; omega
    obtain ⟨X, hXe⟩ : ∃ X, X = a * Num.hi b (k + 1) := ⟨_, rfl⟩
    rw [← hXe] at hX hgX
    have GX := Lib.hid hXe
    have hlt := cO.lt
    have HA1 : Num.gl a ≤ 10000000 := by have := hla.out; omega
    have HAD : Num.gl (a * d) ≤ 10000000 := by have h1 := Num.gl_mul a d; have h2 := hla.out; have h3 : Num.gl d ≤ 1 := Num.gl_le.2 (by omega); omega
    clear hd hXe hgh bL bO bN hB0
    obtain ⟨av, cv, rfl, hcv, hrv⟩ := hX
    by_cases hz : X = 0
    · have hnp : ¬ 0 < Num.gl X := by rw [hz, Num.gl_zero]; omega
      have HYd : IsNum W.drew.heap.size W.drew (.slice av (Num.gl X) cv) X := ⟨av, cv, rfl, hcv, hrv⟩
      have GY : Hid (X = 10000 * X) := Lib.hid (by omega)
      have hO := cO.cell
      have hOf := cO.frozen
      clear hcv hrv hz
      gi_wp2
      have HLd : IsNum W.drew.heap.size W.drew (.slice a1 l1 c1) a := H1.out.below hBw |>.mono hBw.size
      have HY2 : Num.gl X ≤ 10000000 := by omega
      have gL := cL.cell
      have cOd : Boxed W.drew (w.heap.size + 1) 92 (.slice av (Num.gl X) cv) := cO
      have mixed : Tryz.prog.follows .mixedOrders = true := by kernel_rfl
      gi_region_with_o (first
        | (refine ⟨trivial, ?_⟩; gi_at_call 125; refine (CallsIn.inRound l (callsIn_wide.2 (by_any _ _ a d HA1 HD HLd))).mono ?_; rintro e w' ⟨⟨pv, rfl, hpv⟩, hb3⟩; have gO3 := (Boxed.below cOd hb3).cell)
        | (refine ⟨trivial, ?_⟩; gi_at_call 79; refine (CallsIn.inRound l (callsIn_wide.2 (plus_any _ _ _ X (a * d) HY2 HAD (HYd.later hb3) hpv))).mono ?_; rintro e w'' ⟨⟨qv, rfl, ⟨qa, qc, rfl, hqc, hqr⟩⟩, hb4⟩; have gO4 := (Boxed.below (Boxed.below cOd hb3) hb4).cell; have gO4f := (Boxed.below (Boxed.below cOd hb3) hb4).frozen))
      all_goals exact tim_next (ov := .slice av (Num.gl X) cv) hBw (Step.refl (n₁ := w.heap.size) (Bs := w.heap.size + 1 + 1) W).drew hsz cL cOd rfl hb3 hb4 ⟨qa, qc, rfl, hqc, hqr⟩ GX GY GS
    · obtain ⟨b0, o0, rfl, hb0, hc0⟩ := hrv (fun e => hz (Num.grp_eq_nil.1 e))
      have hpos : 0 < Num.gl X := Num.gl_pos.2 hz
      have hO := cO.cell
      have hOf := cO.frozen
      have hnews := row_news (l := Num.grp X) (B := W.heap.size) (W := W.alloc (.cells #[dv 0] 3)) (ad := ⟨b0, o0, none⟩) (hrv.below ((Below.refl _ _).alloc (Nat.le_refl _) _))
      have GN := Lib.hid hnews
      have GZ := Lib.hid hz
      clear hc0 hrv hnews hz
      gi_wp2_with (gi_at_builtin; refine wpListIn_append_own _ rfl (.tmp 15) (.tmp 16) 92 rfl W.heap.size 3 i0 (.int .i64 0) 1 8 Tryz.underlying92 hi hz0 hz1 hz2 rfl (by decide) _ 1 [dv 0] rfl (lit_own W 0) ⟨b0, o0, none⟩ (Num.gl X) cv ((Num.grp X).map dv) rfl ?c0 ?c1 (news_one _) ?b1 ?b2 ?b3 ?_)
      case c0 => simp [Num.gl]
      case c1 => exact GN.out
      case b1 => unfold maxLen; omega
      case b2 => omega
      case b3 => simp
      intro v' w1 hown' hgrow _
      have hN := lit_num hown' (by omega) (.inl GZ.out)
      have hb01 : Below W.heap.size W w1 := ((Below.refl _ W).alloc (Nat.le_refl _) _).grown hgrow (by simp) (fun j e => by simp [Value.ownBlock] at e; omega)
      obtain ⟨Y, hYe⟩ : ∃ Y, Y = 10000 * X := ⟨_, rfl⟩
      rw [Nat.zero_add, ← hYe] at hN
      have GY := Lib.hid hYe
      obtain ⟨av', cv', rfl, hcv', hrv'⟩ := hN
      have cO1 := Boxed.below cO hb01
      have hO1 := cO1.cell
      have hOf1 := cO1.frozen
      clear hown' hgrow hYe hO hOf
      have HNY : IsNum (w1.setCell ⟨w.heap.size + 1, 0, none⟩ (.slice av' (Num.gl Y) cv')).heap.size (w1.setCell ⟨w.heap.size + 1, 0, none⟩ (.slice av' (Num.gl Y) cv')) (.slice av' (Num.gl Y) cv') Y := by
        rw [setCell_size]; exact (show IsNum w1.heap.size w1 _ Y from ⟨av', cv', rfl, hcv', hrv'⟩).set_box cO1 _
      have cO2 := cO1.set (.slice av' (Num.gl Y) cv')
      have cL2 := Boxed.other (.slice av' (Num.gl Y) cv') (Boxed.below cL hb01) (show w.heap.size ≠ w.heap.size + 1 by omega)
      gi_wp2
      have st := ((Step.refl (n₁ := w.heap.size) (Bs := w.heap.size + 1 + 1) W).call hb01 hBw.size hsz).set (C := w.heap.size + 1) (.slice av' (Num.gl Y) cv') (by omega) (by omega)
      obtain ⟨W2, hW2⟩ : ∃ W2, W2 = w1.setCell ⟨w.heap.size + 1, 0, none⟩ (.slice av' (Num.gl Y) cv') := ⟨_, rfl⟩
      rw [← hW2] at HNY cO2 cL2 st ⊢
      have hb2 := hBw.trans st.kp.1
      have HL : IsNum W2.heap.size W2 (.slice a1 l1 c1) a := H1.out.below hb2 |>.mono hb2.size
      have HY2 : Num.gl Y ≤ 10000000 := by
        have h1 := Num.gl_mul 10000 X
        have h2 : Num.gl 10000 ≤ 2 := Num.gl_le.2 (by omega)
        rw [← GY.out] at h1
        omega
      have gO := cO2.cell
      have gOf := cO2.frozen
      have gL := cL2.cell
      have HLd : IsNum W2.drew.heap.size W2.drew (.slice a1 l1 c1) a := HL
      have HYd : IsNum W2.drew.heap.size W2.drew (.slice av' (Num.gl Y) cv') Y := HNY
      have cOd : Boxed W2.drew (w.heap.size + 1) 92 (.slice av' (Num.gl Y) cv') := cO2
      have mixed : Tryz.prog.follows .mixedOrders = true := by kernel_rfl
      clear hW2 hO1 hOf1 hrv' HL HNY
      gi_region_with_o (first
        | (refine ⟨trivial, ?_⟩; gi_at_call 125; refine (CallsIn.inRound l (callsIn_wide.2 (by_any _ _ a d HA1 HD HLd))).mono ?_; rintro e w' ⟨⟨pv, rfl, hpv⟩, hb3⟩; have gO3 := (Boxed.below cOd hb3).cell)
        | (refine ⟨trivial, ?_⟩; gi_at_call 79; refine (CallsIn.inRound l (callsIn_wide.2 (plus_any _ _ _ Y (a * d) HY2 HAD (HYd.later hb3) hpv))).mono ?_; rintro e w'' ⟨⟨qv, rfl, ⟨qa, qc, rfl, hqc, hqr⟩⟩, hb4⟩; have gO4 := (Boxed.below (Boxed.below cOd hb3) hb4).cell; have gO4f := (Boxed.below (Boxed.below cOd hb3) hb4).frozen))
      all_goals exact tim_next (ov := .slice av' (Num.gl Y) cv') hBw st.drew hsz cL2 cOd rfl hb3 hb4 ⟨qa, qc, rfl, hqc, hqr⟩ GX GY GS
  case done =>
    rintro D W hD ⟨⟨cL, v, cO, hX⟩, hBw⟩ hK
    have hR := cO.cell
    rw [Num.hi_zero] at hX
    gi_wp2
    refine ⟨by simp, .inl ⟨_, _, rfl, run_takeDeferred hK, ?_⟩⟩
    refine ⟨_, results_tmp rfl _ _ _, ⟨v, rfl, Turns.num (B := 0) W _ (some D) hX (grownBy_putObj' W D _) (fun r e => by cases e; exact ⟨Nat.zero_le _, _, hK, rfl⟩)⟩, hBw.trans (belowK_b (w := w) (Nat.le_refl _) _ D _ _ (by simp at hD; omega) hK rfl rfl)⟩
  case stop =>
    rintro D W _ h _
    exact h.elim

/-- 'times': the product. -/
theorem times_any (w : World) (v1 v2 : Value) (a b : Nat) (ha : Num.gl a ≤ 1000000) (hb : Num.gl b ≤ 1000000) (h1 : IsNum w.heap.size w v1 a) (h2 : IsNum w.heap.size w v2 b) :
    Calls Tryz.prog 71 #[v1, v2] w fun e w' => (∃ v, e = .returned v ∧ IsNum w'.heap.size w' v (a * b)) ∧ Below w.heap.size w w' := by
  have h1' := h1
  obtain ⟨a1, c1, rfl, hc1, r1⟩ := h1
  obtain ⟨a2, c2, rfl, hc2, r2⟩ := h2
  exact times_walk w a1 a2 _ _ c1 c2 a b (Lib.hid rfl) (Lib.hid rfl) ha hb h1' r2
end Go.Proofs.YtkihodadopcioaaGreatDoor
