/- The three closures that give a digit of a sum, a difference, a product with one group. -/
import Derived.Test.YtkihodadopcioaaGreatDoorBase
namespace Go.Proofs.YtkihodadopcioaaGreatDoor
open Go.RowKit

set_option maxHeartbeats 400000 in
theorem plus_digit (B b1 b2 i : Nat) (v1 v2 : Value) (n m : Nat) (W : World) (h1 : W.cell? ⟨b1, 0, none⟩ = some v1) (h2 : W.cell? ⟨b2, 0, none⟩ = some v2) (k1 : IsNum B W v1 n) (k2 : IsNum B W v2 m) :
    Calls Tryz.prog 132 #[.int .i64 (i : Int), .pointer (some ⟨b1, 0, none⟩), .pointer (some ⟨b2, 0, none⟩)] W fun e W' => e = .returned (.int .i64 ((dig n i : Int) + (dig m i : Int))) ∧ ∃ q, W' = W.drewN q := by
  have d1 := dig_lt n i
  have d2 := dig_lt m i
  have H1 := fun q : Nat => at_quiet B (W.drewN q) v1 n i k1
  have H2 := fun q : Nat => at_quiet B (W.drewN q) v2 m i k2
  clear k1 k2
  generalize dig n i = x at *
  generalize dig m i = y at *
  have G1 := Lib.hid H1
  have G2 := Lib.hid H2
  clear H1 H2
  go_enter Tryz.func132, Tryz.ntmps132
  go_wp2
  go_quiet (first | (go_at_call_of 133 (v1); exact Calls.quiet_of_same (G1.out _)) | (go_at_call_of 133 (v2); exact Calls.quiet_of_same (G2.out _)))
  go_wp2
  go_ret
  exact ⟨rfl, _, rfl⟩

set_option maxHeartbeats 400000 in
theorem minus_digit (B b1 b2 i : Nat) (v1 v2 : Value) (n m : Nat) (W : World) (h1 : W.cell? ⟨b1, 0, none⟩ = some v1) (h2 : W.cell? ⟨b2, 0, none⟩ = some v2) (k1 : IsNum B W v1 n) (k2 : IsNum B W v2 m) :
    Calls Tryz.prog 134 #[.int .i64 (i : Int), .pointer (some ⟨b1, 0, none⟩), .pointer (some ⟨b2, 0, none⟩)] W fun e W' => e = .returned (.int .i64 ((dig n i : Int) - (dig m i : Int))) ∧ ∃ q, W' = W.drewN q := by
  have d1 := dig_lt n i
  have d2 := dig_lt m i
  have H1 := fun q : Nat => at_quiet B (W.drewN q) v1 n i k1
  have H2 := fun q : Nat => at_quiet B (W.drewN q) v2 m i k2
  clear k1 k2
  generalize dig n i = x at *
  generalize dig m i = y at *
  have G1 := Lib.hid H1
  have G2 := Lib.hid H2
  clear H1 H2
  go_enter Tryz.func134, Tryz.ntmps134
  go_wp2
  go_quiet (first | (go_at_call_of 133 (v1); exact Calls.quiet_of_same (G1.out _)) | (go_at_call_of 133 (v2); exact Calls.quiet_of_same (G2.out _)))
  go_wp2
  go_ret
  exact ⟨rfl, _, rfl⟩

set_option maxHeartbeats 400000 in
theorem by_digit (B b1 b2 i : Nat) (v1 : Value) (n k : Nat) (W : World) (h1 : W.cell? ⟨b1, 0, none⟩ = some v1) (h2 : W.cell? ⟨b2, 0, none⟩ = some (.int .i64 (k : Int))) (hk : k < 10000) (k1 : IsNum B W v1 n) :
    Calls Tryz.prog 162 #[.int .i64 (i : Int), .pointer (some ⟨b1, 0, none⟩), .pointer (some ⟨b2, 0, none⟩)] W fun e W' => e = .returned (.int .i64 ((dig n i : Int) * (k : Int))) ∧ ∃ q, W' = W.drewN q := by
  have d1 := dig_lt n i
  have H1 := fun q : Nat => at_quiet B (W.drewN q) v1 n i k1
  clear k1
  generalize dig n i = x at *
  have G1 := Lib.hid H1
  clear H1
  have hb : x * k ≤ 9999 * 9999 := Nat.mul_le_mul (by omega) (by omega)
  have hw : IntKind.i64.wrap ((x : Int) * (k : Int)) = (x : Int) * (k : Int) := IntWalk.i64_in _ (by rw [← Int.natCast_mul]; omega)
  go_enter Tryz.func162, Tryz.ntmps162
  go_wp2
  go_quiet ((go_at_call_of 133 (v1); exact Calls.quiet_of_same (G1.out _)))
  go_wp2
  go_ret
  exact ⟨rfl, _, rfl⟩
end Go.Proofs.YtkihodadopcioaaGreatDoor
