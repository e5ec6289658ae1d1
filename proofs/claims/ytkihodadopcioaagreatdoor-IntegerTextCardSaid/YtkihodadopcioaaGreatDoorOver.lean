/- 'over': quotient and remainder of absolute values. -/
import Derived.Test.YtkihodadopcioaaGreatDoorArith
namespace Go.Proofs.YtkihodadopcioaaGreatDoor
open Go.RowKit Go.Shelf

attribute [local go_sem] Oper.semAt_some

theorem enters_over1 : ∀ args w, (callFunc 130 args).run Tryz.prog w = .ok (.enter 130 args) w := enters_of Tryz.func130 (by kernel_rfl) rfl

theorem over_end {w W : World} {mv qv : Value} {R Q D : Nat} {cs : Array Value} {a0 a1 a2 : Option Addr} {n0 n1 n2 c0 c1 c2 : Nat} (S : OvSt w W W mv qv (.slice a2 n2 c2) R cs) (hq : qv = .slice a0 n0 c0) (hu : IsNum W.heap.size W (.slice a1 n1 c1) Q)
    (hD : w.heap.size + 1 + 1 + 1 + 1 < D) (hK : W.heap[D]? = some (.deferred (some []))) :
    ((W.setCell ⟨w.heap.size + 1, 0, none⟩ (.slice a1 n1 c1)).setCell ⟨w.heap.size + 1 + 1, 0, none⟩ (.slice a2 n2 c2)).drew.heap[D]? = some (.deferred (some [])) ∧
    ((((W.setCell ⟨w.heap.size + 1, 0, none⟩ (.slice a1 n1 c1)).setCell ⟨w.heap.size + 1 + 1, 0, none⟩ (.slice a2 n2 c2)).drew.putObj D (.deferred none)).cell? ⟨w.heap.size + 1, 0, none⟩ = some (.slice a1 n1 c1) ∧
     (((W.setCell ⟨w.heap.size + 1, 0, none⟩ (.slice a1 n1 c1)).setCell ⟨w.heap.size + 1 + 1, 0, none⟩ (.slice a2 n2 c2)).drew.putObj D (.deferred none)).cell? ⟨w.heap.size + 1 + 1, 0, none⟩ = some (.slice a2 n2 c2)) ∧
    (IsNum (((W.setCell ⟨w.heap.size + 1, 0, none⟩ (.slice a1 n1 c1)).setCell ⟨w.heap.size + 1 + 1, 0, none⟩ (.slice a2 n2 c2)).drew.putObj D (.deferred none)).heap.size (((W.setCell ⟨w.heap.size + 1, 0, none⟩ (.slice a1 n1 c1)).setCell ⟨w.heap.size + 1 + 1, 0, none⟩ (.slice a2 n2 c2)).drew.putObj D (.deferred none)) (.slice a1 n1 c1) Q ∧
     IsNum (((W.setCell ⟨w.heap.size + 1, 0, none⟩ (.slice a1 n1 c1)).setCell ⟨w.heap.size + 1 + 1, 0, none⟩ (.slice a2 n2 c2)).drew.putObj D (.deferred none)).heap.size (((W.setCell ⟨w.heap.size + 1, 0, none⟩ (.slice a1 n1 c1)).setCell ⟨w.heap.size + 1 + 1, 0, none⟩ (.slice a2 n2 c2)).drew.putObj D (.deferred none)) (.slice a2 n2 c2) R) ∧
    Below w.heap.size w (((W.setCell ⟨w.heap.size + 1, 0, none⟩ (.slice a1 n1 c1)).setCell ⟨w.heap.size + 1 + 1, 0, none⟩ (.slice a2 n2 c2)).drew.putObj D (.deferred none)) := by
  subst hq
  have b1 := S.cQ.set (.slice a1 n1 c1)
  have b2 := Boxed.other (.slice a1 n1 c1) S.cR (show w.heap.size + 1 + 1 ≠ w.heap.size + 1 by omega)
  have k1 : IsNum (W.setCell ⟨w.heap.size + 1, 0, none⟩ (.slice a1 n1 c1)).heap.size (W.setCell ⟨w.heap.size + 1, 0, none⟩ (.slice a1 n1 c1)) (.slice a1 n1 c1) Q := by rw [setCell_size]; exact hu.set_box S.cQ _
  have k2 : IsNum (W.setCell ⟨w.heap.size + 1, 0, none⟩ (.slice a1 n1 c1)).heap.size (W.setCell ⟨w.heap.size + 1, 0, none⟩ (.slice a1 n1 c1)) (.slice a2 n2 c2) R := by rw [setCell_size]; exact S.num.num.set_box S.cQ _
  generalize hV : W.setCell ⟨w.heap.size + 1, 0, none⟩ (.slice a1 n1 c1) = V at *
  have hKV : V.heap[D]? = some (.deferred (some [])) := by rw [← hV]; exact (KeepsOthers.setCell W _ _).same D _ hK rfl
  have hBV : Below w.heap.size w V := by rw [← hV]; exact S.below.setCell (p := ⟨w.heap.size + 1, 0, none⟩) (by simp) _
  have b3 := Boxed.other (.slice a2 n2 c2) b1 (show w.heap.size + 1 ≠ w.heap.size + 1 + 1 by omega)
  have b4 := b2.set (.slice a2 n2 c2)
  have k3 : IsNum (V.setCell ⟨w.heap.size + 1 + 1, 0, none⟩ (.slice a2 n2 c2)).heap.size (V.setCell ⟨w.heap.size + 1 + 1, 0, none⟩ (.slice a2 n2 c2)) (.slice a1 n1 c1) Q := by rw [setCell_size]; exact k1.set_box b2 _
  have k4 : IsNum (V.setCell ⟨w.heap.size + 1 + 1, 0, none⟩ (.slice a2 n2 c2)).heap.size (V.setCell ⟨w.heap.size + 1 + 1, 0, none⟩ (.slice a2 n2 c2)) (.slice a2 n2 c2) R := by rw [setCell_size]; exact k2.set_box b2 _
  have hKU : (V.setCell ⟨w.heap.size + 1 + 1, 0, none⟩ (.slice a2 n2 c2)).heap[D]? = some (.deferred (some [])) := (KeepsOthers.setCell V _ _).same D _ hKV rfl
  have hBU : Below w.heap.size w (V.setCell ⟨w.heap.size + 1 + 1, 0, none⟩ (.slice a2 n2 c2)) := hBV.setCell (p := ⟨w.heap.size + 1 + 1, 0, none⟩) (by simp; omega) _
  generalize V.setCell ⟨w.heap.size + 1 + 1, 0, none⟩ (.slice a2 n2 c2) = U at *
  have hd : Boxed U.drew (w.heap.size + 1) 92 (.slice a1 n1 c1) := b3
  have hd2 : Boxed U.drew (w.heap.size + 1 + 1) 92 (.slice a2 n2 c2) := b4
  have hg := grownBy_putObj' U.drew D (.deferred none)
  refine ⟨hKU, ⟨(hd.kept hg (by intro e; cases e; omega)).cell, (hd2.kept hg (by intro e; cases e; omega)).cell⟩, ⟨?_, ?_⟩, ?_⟩
  · exact Turns.num (B := 0) U.drew _ (some D) k3 hg (fun r e => by cases e; exact ⟨Nat.zero_le _, _, hKU, rfl⟩)
  · exact Turns.num (B := 0) U.drew _ (some D) k4 hg (fun r e => by cases e; exact ⟨Nat.zero_le _, _, hKU, rfl⟩)
  · exact hBU.drew.trans (belowK_b (w := w) (Nat.le_refl _) U.drew D _ _ (by omega) hKU rfl rfl)

set_option maxRecDepth 100000 in
set_option maxHeartbeats 4000000 in
theorem over_walk (w : World) (a1 a2 : Option Addr) (l1 l2 c1 c2 a b : Nat) (hla : Hid (Num.gl a = l1)) (hlb : Hid (Num.gl b = l2)) (hA : l1 ≤ 1000000) (hB : l2 ≤ 1000000) (hb0 : 0 < b)
    (h1 : Row w.heap.size w a1 (Num.grp a)) (h2 : IsNum w.heap.size w (.slice a2 l2 c2) b) :
    Calls Tryz.prog 78 #[.slice a1 l1 c1, .slice a2 l2 c2] w fun e w' => (∃ u v, e = .returned (.tuple #[u, v]) ∧ IsNum w'.heap.size w' u (a / b) ∧ IsNum w'.heap.size w' v (a % b)) ∧ Below w.heap.size w w' := by
  have H1 := Lib.hid h1
  have H2 := Lib.hid h2
  have HB0 := Lib.hid hb0
  clear h1 h2 hb0
  have hmk := fun W => run_make_row' (P := Tryz.prog) 92 3 (.int .i64 0) 8 Tryz.underlying92 int_info rfl .i64 .i64 l1 (by omega) (by omega) W
  refine (callsIn_wide (n := 5)).1 ?_
  refine callsIn_of_wp_marks Tryz.func78 rfl trivial ?_ rfl
  simp only [Tryz.ntmps78, List.size_toArray, List.length_cons, List.length_nil, Nat.reduceAdd, Nat.reduceSub, Array.replicate_succ, Array.replicate_zero, List.push_toArray, List.append_toArray, List.nil_append, List.cons_append]
  gi_wp2_with (refine ⟨trivial, ?_⟩; gi_at_call 121; refine (callsIn_wide.2 (backward_any _ _ _ _)).mono ?_; rintro e w' ⟨rfl, rfl⟩)
  obtain ⟨qv, hqv⟩ : ∃ qv, qv = Value.slice (some ⟨w.heap.size + 1 + 1 + 1, 0, none⟩) l1 l1 := ⟨_, rfl⟩
  obtain ⟨mv, hmv⟩ : ∃ mv, mv = Value.slice a2 l2 c2 := ⟨_, rfl⟩
  obtain ⟨W0, hW0⟩ : ∃ W0, W0 = ((((w.alloc (.cells #[.slice a2 l2 c2] 92)).alloc (.cells #[.slice (some ⟨w.heap.size + 1 + 1 + 1, 0, none⟩) l1 l1] 92)).alloc (.cells #[.slice none 0 0] 92)).alloc (.cells (madeCells #[.int .i64 0] l1) 3)).alloc (.cells #[.slice a1 l1 c1] 92) := ⟨_, rfl⟩
  rw [← hW0]
  have hs0 : W0.heap.size = w.heap.size + 1 + 1 + 1 + 1 + 1 := by rw [hW0]; simp
  have hBw0 : Below w.heap.size w W0 := by
    rw [hW0]
    exact ((((Below.refl _ w).alloc (Nat.le_refl _) _).alloc (by simp) _).alloc (by simp; omega) _).alloc (by simp; omega) _ |>.alloc (by simp; omega) _
  have bN : Boxed W0 (w.heap.size + 1 + 1 + 1 + 1) 92 (.slice a1 l1 c1) := by
    have := Boxed.new ((((w.alloc (.cells #[.slice a2 l2 c2] 92)).alloc (.cells #[.slice (some ⟨w.heap.size + 1 + 1 + 1, 0, none⟩) l1 l1] 92)).alloc (.cells #[.slice none 0 0] 92)).alloc (.cells (madeCells #[.int .i64 0] l1) 3)) 92 (.slice a1 l1 c1)
    simp only [World.size_alloc] at this
    rw [hW0]; exact this
  have hI0 : OvI w mv qv a b l1 W0 := by
    have e1 : Num.hi a l1 = 0 := by rw [← hla.out]; exact Num.hi_end a
    refine ⟨[], .slice none 0 0, ⟨⟨?_, ?_⟩, ?_, ?_⟩, ⟨?_, hBw0⟩, Lib.hid ⟨by have := hla.out; simp; omega, fun d hd => (by cases hd), by rw [e1]; simp [Num.val]⟩⟩
    · rw [hW0, hmv]
      exact ((((Boxed.new w _ _).alloc _).alloc _).alloc _).alloc _
    · rw [hW0, hqv]
      have := Boxed.new (w.alloc (.cells #[.slice a2 l2 c2] 92)) 92 (.slice (some ⟨w.heap.size + 1 + 1 + 1, 0, none⟩) l1 l1)
      rw [World.size_alloc] at this
      exact ((this.alloc _).alloc _).alloc _
    · rw [hW0]
      have := Boxed.new ((w.alloc (.cells #[.slice a2 l2 c2] 92)).alloc (.cells #[.slice (some ⟨w.heap.size + 1 + 1 + 1, 0, none⟩) l1 l1] 92)) 92 (.slice none 0 0)
      simp only [World.size_alloc] at this
      exact (this.alloc _).alloc _
    · rw [hW0, ← qrow_made]
      have := World.alloc_heap_new (((w.alloc (.cells #[.slice a2 l2 c2] 92)).alloc (.cells #[.slice (some ⟨w.heap.size + 1 + 1 + 1, 0, none⟩) l1 l1] 92)).alloc (.cells #[.slice none 0 0] 92)) (.cells (madeCells #[.int .i64 0] l1) 3)
      simp only [World.size_alloc] at this
      exact (Below.heap_alloc _ _ _ (by simp)).trans this
    · rw [e1, Nat.zero_mod]
      exact ⟨none, 0, by rw [Num.gl_zero], by rw [Num.gl_zero]; exact Nat.le_refl _, by rw [Num.grp_zero]; exact Row.nil, fun h => absurd Num.grp_zero h⟩
  have hlz : (Num.grp a).length = l1 := hla.out
  refine wpIn_back 5 (by omega) (w.heap.size + 1 + 1 + 1 + 1) w.heap.size a1 c1 (Num.grp a) (by omega) rfl rfl (by rw [hlz]; exact bN.cell) hBw0.size (H1.out.below hBw0)
    (OvI w mv qv a b) (fun _ => False) (fun k => OvI.turns hBw0.size) Turns.const (by rw [hlz]; exact hI0)
    (fun k d => { tmps := #[.slice a1 l1 c1, .slice a2 l2 c2, undef, .pointer (some ⟨w.heap.size, 0, none⟩), .pointer (some ⟨w.heap.size + 1, 0, none⟩), .pointer (some ⟨w.heap.size + 1 + 1, 0, none⟩), .int .i64 (k : Int), dv d, undef, undef, .slice a1 l1 c1, .int .i64 (l1 : Int),
          .slice (some ⟨w.heap.size + 1 + 1 + 1, 0, none⟩) l1 l1, .slice a1 l1 c1, .func (.func 156) #[] #[.pointer (some ⟨w.heap.size + 1 + 1 + 1 + 1, 0, none⟩)], .int .i64 (k : Int), dv d,
          undef, undef, undef, undef, undef, undef, undef, undef, undef, undef, undef, undef, undef, undef, undef, undef, undef, undef, undef, undef, undef, undef, undef, undef], defers := [] }) ?assign ?body ?done ?stop
  case assign =>
    intro l k d W K hK
    gi_wp2
    exact hK
  case body =>
    rintro l k d W hd hI hBs
    have hsz : w.heap.size + 1 + 1 + 1 + 1 < W.heap.size := by have := hBs.size; omega
    obtain ⟨z, rv, S0, HZ⟩ := hI.state hsz
    have HD : d < 10000 := Num.grp_get_lt hd
    have GS := Lib.hid (Num.hi_succ hd)
    have hkl : k < l1 := by rw [← hlz]; exact (List.getElem?_eq_some_iff.1 hd).1
    obtain ⟨R, hR⟩ : ∃ R, R = Num.hi a (k + 1) % b := ⟨_, rfl⟩
    rw [← hR] at S0
    have GR := Lib.hid hR
    have hgR : Num.gl R ≤ 1000000 := by
      have : R ≤ b := by rw [hR]; exact Nat.le_of_lt (Nat.mod_lt _ HB0.out)
      have := Num.gl_mono this
      have := hlb.out
      omega
    clear hd hR hI hBs bN hI0 hs0 hBw0 hW0 hmk
    obtain ⟨ra, rc, rfl, hrc, hrr, hrf⟩ := S0.num
    have gR := S0.cR.cell
    have gRf := S0.cR.frozen
    have gRl := S0.cR.lt
    have hRr := Lib.hid (hrr.below ((Below.refl _ W).alloc (Nat.le_refl _) (.cells #[dv d] 3)))
    clear hrr hrf
    gi_wp2_with (gi_at_builtin; refine wpListIn_append_lit _ rfl (.tmp 18) (.tmp 19) rfl W.heap.size W.heap.size d R rc W.heap.size ra rfl rfl (lit_own W d) hRr.out ?b1 ?b2 ?_)
    case b1 => omega
    case b2 => simp
    rintro a5 c5 w5 h5 hg5
    obtain ⟨hc5, hr5, hf5⟩ := h5
    have hb5 : Below W.heap.size W w5 := ((Below.refl _ W).alloc (Nat.le_refl _) _).grown hg5 (by simp) (fun j e => by cases e; exact Nat.le_refl _)
    have S1 := S0.call hb5
    have hdig5 : Num.Dig (d :: Num.grp R) := fun x hx => by
      rcases List.mem_cons.1 hx with rfl | hx
      · exact HD
      · exact Num.grp_dig R x hx
    have hv5 : Num.val (d :: Num.grp R) = d + 10000 * R := by show d + 10000 * Num.val (Num.grp R) = _; rw [Num.val_grp]
    have HT := trimmed_new W.heap.size w5.heap.size w5 a5 (d :: Num.grp R) c5 hdig5 hc5 (by simp; have : (Num.grp R).length = Num.gl R := rfl; omega) hr5 hf5
    rw [hv5] at HT
    have GT := Lib.hid HT
    clear HT hdig5 hv5 hc5 hr5 hf5 hg5 S0 gR gRf gRl
    have gR := S1.cR.cell
    have gRf := S1.cR.frozen
    obtain ⟨X, hX⟩ : ∃ X, X = d + 10000 * R := ⟨_, rfl⟩
    rw [← hX] at GT
    have GX := Lib.hid hX
    clear hX
    gi_wp2_with fail
    refine ⟨trivial, (CallsIn.inRound l (callsIn_wide.2 GT.out)).mono ?_⟩
    rintro e w' ⟨⟨v6, rfl, hv6⟩, rfl⟩
    have gM := S1.cM.cell
    rw [hmv] at gM
    have S2 := S1.setR (hv6.from (show w.heap.size + 1 + 1 + 1 + 1 ≤ W.heap.size by omega))
    obtain ⟨a6, c6, rfl, -, -, -⟩ := hv6
    clear GT S1 hRr
    gi_wp2
    obtain ⟨p8, hp8⟩ : ∃ p8, p8 = w5.heap.size := ⟨_, rfl⟩
    obtain ⟨w7, hw7⟩ : ∃ w7, w7 = (w5.setCell ⟨w.heap.size + 1 + 1, 0, none⟩ (.slice a6 (Num.gl X) c6)).alloc (.cells #[.func (.func 125) #[.slice a2 l2 c2] #[]] 153) := ⟨_, rfl⟩
    have bBy := Boxed.new (w5.setCell ⟨w.heap.size + 1 + 1, 0, none⟩ (.slice a6 (Num.gl X) c6)) 153 (.func (.func 125) #[.slice a2 l2 c2] #[])
    have S3 := (S2.alloc (.cells #[.func (.func 125) #[.slice a2 l2 c2] #[]] 153)).drew
    rw [setCell_size, ← hp8, ← hw7] at bBy
    rw [← hw7] at S3 ⊢
    rw [← hp8]
    have hp8l : w.heap.size + 1 + 1 + 1 + 1 < p8 := by have := S2.size; rw [setCell_size] at this; omega
    clear S2 hw7 hp8 gM gR gRf hb5
    have hm7 : IsNum w7.drew.heap.size w7.drew (.slice a2 l2 c2) b := (H2.out.below S3.below).mono S3.below.size
    have hgb : Num.gl b ≤ 1000000 := by have := hlb.out; omega
    have HSr := search_any 130 #[.pointer (some ⟨p8, 0, none⟩), .pointer (some ⟨w.heap.size + 1 + 1, 0, none⟩)] 9999 (fun j => decide (X < b * (j + 1))) w7.drew enters_over1 (by omega)
      (fun W' i hi hb => too_much W' p8 (w.heap.size + 1 + 1) b X i (.slice a2 l2 c2) (.slice a6 (Num.gl X) c6) hi hgb (Boxed.below (show Boxed w7.drew p8 _ _ from bBy) hb).cell (Boxed.below S3.cR hb).cell (hm7.later hb) (S3.num.num.later hb))
      (fun i j hij _ h => more_mono hij h)
    have GSr := Lib.hid HSr
    have mixed : Tryz.prog.follows .mixedOrders = true := by kernel_rfl
    have g1 : w7.cell? ⟨w.heap.size + 1, 0, none⟩ = some (.slice (some ⟨w.heap.size + 1 + 1 + 1, 0, none⟩) l1 l1) := hqv ▸ S3.cQ.cell
    clear HSr hm7
    refine wpIn_mono (Q := fun e a' w' => ∃ r8 : Nat, (e = .normal ∧ Hid (r8 = X / b)) ∧
      a' = { tmps := #[.slice a1 l1 c1, .slice a2 l2 c2, undef, .pointer (some ⟨w.heap.size, 0, none⟩), .pointer (some ⟨w.heap.size + 1, 0, none⟩), .pointer (some ⟨w.heap.size + 1 + 1, 0, none⟩), .int .i64 (k : Int), dv d, .pointer (some ⟨p8, 0, none⟩),
          .func (.func 130) #[] #[.pointer (some ⟨p8, 0, none⟩), .pointer (some ⟨w.heap.size + 1 + 1, 0, none⟩)], .slice a1 l1 c1, .int .i64 (l1 : Int),
          .slice (some ⟨w.heap.size + 1 + 1 + 1, 0, none⟩) l1 l1, .slice a1 l1 c1, .func (.func 156) #[] #[.pointer (some ⟨w.heap.size + 1 + 1 + 1 + 1, 0, none⟩)], .int .i64 (k : Int), dv d,
          dv d, .slice (some ⟨W.heap.size, 0, none⟩) 1 1, .slice ra (Num.gl R) rc, .slice a5 ((Num.grp R).length + 1) c5, .slice a6 (Num.gl X) c6, .slice a2 l2 c2, .func (.func 125) #[.slice a2 l2 c2] #[],
          .func (.func 130) #[] #[.pointer (some ⟨p8, 0, none⟩), .pointer (some ⟨w.heap.size + 1 + 1, 0, none⟩)], .slice (some ⟨w.heap.size + 1 + 1 + 1, 0, none⟩) l1 l1, .int .i64 (k : Int), .func (.func 130) #[] #[.pointer (some ⟨p8, 0, none⟩), .pointer (some ⟨w.heap.size + 1 + 1, 0, none⟩)], dv r8, .pointer (some ⟨w.heap.size + 1 + 1 + 1, k, none⟩), undef, undef, undef, undef, undef, undef, undef, undef, undef, undef, undef], defers := [] } ∧
      OvSt w W w' mv qv (.slice a6 (Num.gl X) c6) X (qrow k (r8 :: z)) ∧ Boxed w' p8 153 (.func (.func 125) #[.slice a2 l2 c2] #[])) ?_ ?_
    · gi_region_with_o (refine ⟨trivial, ?_⟩; gi_at_call 99; refine (CallsIn.inRound l (callsIn_wide.2 GSr.out)).mono ?_; rintro e w' ⟨⟨r8, rfl, hr8⟩, hb8⟩; have S4 := S3.call hb8; have q1 : w'.cell? ⟨w.heap.size + 1, 0, none⟩ = some (.slice (some ⟨w.heap.size + 1 + 1 + 1, 0, none⟩) l1 l1) := hqv ▸ S4.cQ.cell; have q2 := (S4.row.cell k).trans (qrow_get k z); have q3 := S4.row.frozen k)
      all_goals have S5 := S4.setQ k (.int .i64 (r8 : Int))
      all_goals rw [show Value.int .i64 (r8 : Int) = dv r8 from rfl, qrow_set] at S5
      all_goals exact ⟨r8, ⟨rfl, Lib.hid (search_div HB0.out (by have h1 := Nat.mod_lt (Num.hi a (k + 1)) HB0.out; have h2 := GR.out; have h3 := GX.out; omega) hr8.out.1 hr8.out.2.1 hr8.out.2.2)⟩, rfl, S5, Boxed.far (Boxed.below (show Boxed w7.drew p8 _ _ from bBy) hb8) (by simp; omega) _⟩
    · rintro e a' w9 ⟨r8, ⟨rfl, H8⟩, rfl, S5, bBy9⟩
      have h8 : r8 < 10000 := by
        rw [H8.out, GX.out, GR.out]
        exact digit_step HB0.out HD
      have hle : b * r8 ≤ X := by rw [H8.out]; exact Nat.mul_div_le X b
      have hgX : Num.gl X ≤ 10000000 := by
        have h1 := Num.gl_add d (10000 * R)
        have h2 := Num.gl_mul 10000 R
        have h3 : Num.gl 10000 ≤ 2 := Num.gl_le.2 (by omega)
        have h4 : Num.gl d ≤ 1 := Num.gl_le.2 (by omega)
        rw [← GX.out] at h1
        omega
      have S6 := S5.drew
      have hm9 : IsNum w9.drew.heap.size w9.drew (.slice a2 l2 c2) b := (H2.out.below S6.below).mono S6.below.size
      have GBy := Lib.hid (by_any w9.drew (.slice a2 l2 c2) b r8 (by omega) h8 hm9)
      have GLe := Lib.hid hle
      have g2 : w9.cell? ⟨w.heap.size + 1, 0, none⟩ = some (.slice (some ⟨w.heap.size + 1 + 1 + 1, 0, none⟩) l1 l1) := hqv ▸ S5.cQ.cell
      have g3 := S5.cR.cell
      have g4 := bBy9.cell
      have g5 := (S5.row.cell k).trans (qrow_at k r8 z)
      clear hle hm9 g1 bBy
      gi_wp2
      gi_region_with_o (first
        | (refine ⟨trivial, ?_⟩; gi_at_call 125; refine (CallsIn.inRound l (callsIn_wide.2 GBy.out)).mono ?_; rintro e w' ⟨⟨pv, rfl, hpv⟩, hb3⟩; have S7 := S6.call hb3; have g6 := S7.cR.cell)
        | (refine ⟨trivial, ?_⟩; gi_at_call 81; refine (CallsIn.inRound l (callsIn_wide.2 (minus_new _ _ _ X (b * r8) hgX GLe.out S7.num.num hpv))).mono ?_; rintro e w'' ⟨⟨qv', rfl, hqv'⟩, hb4⟩; have S8 := S7.call hb4; have S9 := S8.setR (hqv'.from (Nat.le_of_lt S7.size)); have g7 := S8.cR.cell; have g8 := S8.cR.frozen; obtain ⟨qa, qc, rfl, -, -, -⟩ := hqv'))
      all_goals exact S9.word HB0.out HD GS.out HZ.out (by rw [H8.out, GX.out, GR.out]) (by rw [GX.out, GR.out]) _
  case done =>
    rintro D W hD hI hK
    have hsz : w.heap.size + 1 + 1 + 1 + 1 < W.heap.size := by have := (Array.getElem?_eq_some_iff.1 hK).1; omega
    obtain ⟨z, rv, S, HZ⟩ := hI.state hsz
    rw [Num.hi_zero] at S HZ
    have hzl : z.length = l1 := by have := HZ.out.1; have := hla.out; omega
    have hrow : Row W.drew.heap.size W.drew (some ⟨w.heap.size + 1 + 1 + 1, 0, none⟩) z := fun _ => ⟨_, 0, rfl, S.row.lt, fun j d hd => by
      rw [Nat.zero_add]
      refine (S.row.cell j).trans ?_
      unfold qrow
      simp [hd]⟩
    have HT := trimmed_any W.drew.heap.size W.drew (some ⟨w.heap.size + 1 + 1 + 1, 0, none⟩) z l1 HZ.out.2.1 (by omega) (by omega) hrow
    rw [hzl, HZ.out.2.2] at HT
    have GT := Lib.hid HT
    obtain ⟨ra, rc, rfl, -, -, -⟩ := S.num
    have g1 : W.cell? ⟨w.heap.size + 1, 0, none⟩ = some (.slice (some ⟨w.heap.size + 1 + 1 + 1, 0, none⟩) l1 l1) := hqv ▸ S.cQ.cell
    have g1f := S.cQ.frozen
    have g2 := S.cR.cell
    have g2f := S.cR.frozen
    have mixed : Tryz.prog.follows .mixedOrders = true := by kernel_rfl
    have hDl : w.heap.size + 1 + 1 + 1 + 1 < D := by omega
    clear hzl hrow HT hI hBw0 hI0 bN hs0 hW0 hmk
    gi_wp2
    gi_region_with_o (refine ⟨trivial, ?_⟩; gi_at_call 129; refine (callsIn_wide.2 GT.out).mono ?_; rintro e w' ⟨⟨u, rfl, hu⟩, rfl⟩; have hun := Lib.hid hu; obtain ⟨ua, uc, rfl, -, -⟩ := hu)
    all_goals gi_wp2
    all_goals have hE := over_end (a1 := ua) (n1 := Num.gl (a / b)) (c1 := uc) S hqv hun.out hDl hK
    all_goals refine ⟨by simp, .inl ⟨_, _, rfl, run_takeDeferred hE.1, ?_⟩⟩
    all_goals refine ⟨.tuple #[.slice ua (Num.gl (a / b)) uc, .slice ra (Num.gl (a % b)) rc], ?_, ⟨_, _, rfl, hE.2.2.1.1, hE.2.2.1.2⟩, hE.2.2.2⟩
    all_goals simp [results, Tryz.f78, go_sem, hE.2.1.1, hE.2.1.2]
  case stop =>
    rintro D W _ h _
    exact h.elim

/-- 'over': quotient and remainder. -/
theorem over_any (w : World) (v1 v2 : Value) (a b : Nat) (hb0 : 0 < b) (ha : Num.gl a ≤ 1000000) (hb : Num.gl b ≤ 1000000) (h1 : IsNum w.heap.size w v1 a) (h2 : IsNum w.heap.size w v2 b) :
    Calls Tryz.prog 78 #[v1, v2] w fun e w' => (∃ u v, e = .returned (.tuple #[u, v]) ∧ IsNum w'.heap.size w' u (a / b) ∧ IsNum w'.heap.size w' v (a % b)) ∧ Below w.heap.size w w' := by
  have h2' := h2
  obtain ⟨a1, c1, rfl, hc1, r1⟩ := h1
  obtain ⟨a2, c2, rfl, hc2, r2⟩ := h2
  exact over_walk w a1 a2 _ _ c1 c2 a b (Lib.hid rfl) (Lib.hid rfl) ha hb hb0 r1 h2'
end Go.Proofs.YtkihodadopcioaaGreatDoor
