/- The closure of 'over': is the divisor times d + 1 more than what is left? -/
import Derived.Test.YtkihodadopcioaaGreatDoorSum
import Derived.Test.YtkihodadopcioaaGreatDoorComp
import Derived.Test.YtkihodadopcioaaGreatDoorKeep
namespace Go.Proofs.YtkihodadopcioaaGreatDoor
open Go.RowKit Go.Shelf

theorem sgn_pos (x y : Int) : decide (0 < sgn x y) = decide (y < x) := by
  unfold sgn
  by_cases h : x < y
  · rw [if_pos h]; simp; omega
  · rw [if_neg h]
    by_cases h' : y < x
    · rw [if_pos h']; simp [h']
    · rw [if_neg h']; simp; omega

set_option maxHeartbeats 1000000 in
theorem too_much (W : World) (bb br b r d : Nat) (mv rv : Value) (hd : d < 9999) (hgb : Num.gl b ≤ 1000000) (h1 : W.cell? ⟨bb, 0, none⟩ = some (.func (.func 125) #[mv] #[])) (h2 : W.cell? ⟨br, 0, none⟩ = some rv)
    (k1 : IsNum W.heap.size W mv b) (k2 : IsNum W.heap.size W rv r) :
    Calls Tryz.prog 130 #[.int .i64 (d : Int), .pointer (some ⟨bb, 0, none⟩), .pointer (some ⟨br, 0, none⟩)] W fun e W' => e = .returned (.bool (decide (r < b * (d + 1)))) ∧ Below W.heap.size W W' := by
  have hlt : br < W.heap.size := World.block_lt_of_cell? W ⟨br, 0, none⟩ h2
  have hgp : Num.gl (b * (d + 1)) ≤ 10000000 := by
    have := Num.gl_mul b (d + 1)
    have : Num.gl (d + 1) ≤ 1 := Num.gl_le.2 (by omega)
    omega
  have HB := by_any W.drew mv b (d + 1) (by omega) (by omega) k1
  rw [show ((d + 1 : Nat) : Int) = (d : Int) + 1 by omega] at HB
  have HC := Lib.hid HB
  clear HB
  have K2 : Hid (IsNum W.drew.heap.size W.drew rv r) := Lib.hid k2
  have h2d : W.drew.cell? ⟨br, 0, none⟩ = some rv := h2
  have GF := Lib.hid (show decide (0 < sgn ((b * (d + 1) : Nat) : Int) (r : Int)) = decide (r < b * (d + 1)) by rw [sgn_pos, decide_eq_decide]; exact Int.ofNat_lt)
  have hw : IntKind.i64.wrap ((d : Int) + 1) = (d : Int) + 1 := IntWalk.i64_in _ (by omega)
  clear k1 k2
  go_enter Tryz.func130, Tryz.ntmps130
  go_wp2
  go_region_with (first
    | (go_at_call 125; refine HC.out.mono ?_; rintro e w' ⟨⟨pv, rfl, hpv⟩, hb3⟩; have HP := Lib.hid hpv; have g3 := (hb3.cell (p := ⟨br, 0, none⟩) hlt).trans h2d; clear hpv)
    | (go_at_call 72; refine (compare_any _ _ _ _ r hgp HP.out (K2.out.later hb3)).mono ?_; rintro e w'' ⟨rfl, hb4⟩))
  all_goals go_wp2
  all_goals go_ret
  all_goals refine ⟨?_, Below.trans (a := W) (b := W.drew) (Below.refl _ W).drew (hb3.trans (hb4.mono hb3.size))⟩
  all_goals exact congrArg (fun x => Ending.returned (.bool x)) GF.out
end Go.Proofs.YtkihodadopcioaaGreatDoor
