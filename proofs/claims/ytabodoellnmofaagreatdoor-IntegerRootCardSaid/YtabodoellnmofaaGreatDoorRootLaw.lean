/- IntegerRoot: the walks, and that it answers true. -/
import Derived.Test.YtabodoellnmofaaGreatDoorMade
import Derived.Test.YtabodoellnmofaaGreatDoorSane
namespace Go.Proofs.YtabodoellnmofaaGreatDoor
open Go.RowKit Go.Shelf

set_option maxRecDepth 100000 in
set_option maxHeartbeats 4000000 in
theorem rootl_neg (a : ByteArray) (x sq size : List UInt8) (hneb : (size == x) = false) (w : World) (ht : Tab w)
    (H1 : ∀ W, Tab W → Calls Tryz.prog 12 #[] W fun e w' => e = .returned (.bool true) ∧ Below W.heap.size W w')
    (H2 : ∀ W, Tab W → Calls Tryz.prog 13 #[.string a, .int .i64 80] W fun e w' => e = .returned (txt x) ∧ Below W.heap.size W w')
    (H3 : ∀ W, Tab W → Calls Tryz.prog 21 #[txt x] W fun e w' => e = .returned (.tuple #[.string { data := #[] }, .int .i64 30]) ∧ Below W.heap.size W w')
    (H4 : ∀ W, Tab W → Calls Tryz.prog 15 #[txt x, txt x] W fun e w' => e = .returned (.tuple #[txt sq, .int .i64 0]) ∧ Below W.heap.size W w')
    (H5 : ∀ W, Tab W → Calls Tryz.prog 21 #[txt sq] W fun e w' => e = .returned (.tuple #[txt size, .int .i64 0]) ∧ Below W.heap.size W w')
    (H6 : ∀ W, Tab W → Calls Tryz.prog 14 #[txt size, txt x] W fun e w' => e = .returned (.tuple #[.string { data := #[48] }, .int .i64 0]) ∧ Below W.heap.size W w')
    (H7 : ∀ W, Tab W → Calls Tryz.prog 18 #[txt x, .string { data := #[48] }] W fun e w' => e = .returned (.int .i64 (-1)) ∧ Below W.heap.size W w') :
    Calls Tryz.prog 6 #[.string a] w fun e w' => e = .returned (.bool true) ∧ Below w.heap.size w w' := by
  have HT := Lib.hid ht
  have hB := Lib.hid (Below.refl w.heap.size w)
  clear ht
  have G1 := fun W (hW : Tab W) => Lib.hid (H1 W hW)
  have G2 := fun W (hW : Tab W) => Lib.hid (H2 W hW)
  have G3 := fun W (hW : Tab W) => Lib.hid (H3 W hW)
  have G4 := fun W (hW : Tab W) => Lib.hid (H4 W hW)
  have G5 := fun W (hW : Tab W) => Lib.hid (H5 W hW)
  have G6 := fun W (hW : Tab W) => Lib.hid (H6 W hW)
  have G7 := fun W (hW : Tab W) => Lib.hid (H7 W hW)
  clear H1 H2 H3 H4 H5 H6 H7
  go_enter Tryz.func6, Tryz.ntmps6
  go_wp2_with fail
  refine (G1 _ HT.out).out.mono ?_
  rintro e w1 ⟨rfl, hb⟩
  replace HT := Lib.hid (HT.out.later hb)
  replace hB := Lib.hid (hB.out.trans (hb.mono hB.out.size))
  clear hb G1
  go_wp2_with fail
  refine (G2 _ HT.out).out.mono ?_
  rintro e w2 ⟨rfl, hb⟩
  replace HT := Lib.hid (HT.out.later hb)
  replace hB := Lib.hid (hB.out.trans (hb.mono hB.out.size))
  clear hb G2
  go_wp2_with fail
  refine (G3 _ HT.out).out.mono ?_
  rintro e w3 ⟨rfl, hb⟩
  replace HT := Lib.hid (HT.out.later hb)
  replace hB := Lib.hid (hB.out.trans (hb.mono hB.out.size))
  clear hb G3
  go_wp2_with fail
  refine (G4 _ HT.out).out.mono ?_
  rintro e w4 ⟨rfl, hb⟩
  replace HT := Lib.hid (HT.out.later hb)
  replace hB := Lib.hid (hB.out.trans (hb.mono hB.out.size))
  clear hb G4
  go_wp2_with fail
  refine (G5 _ HT.out).out.mono ?_
  rintro e w5 ⟨rfl, hb⟩
  replace HT := Lib.hid (HT.out.later hb)
  replace hB := Lib.hid (hB.out.trans (hb.mono hB.out.size))
  clear hb G5
  go_wp2_with fail
  refine (G6 _ HT.out).out.mono ?_
  rintro e w6 ⟨rfl, hb⟩
  replace HT := Lib.hid (HT.out.later hb)
  replace hB := Lib.hid (hB.out.trans (hb.mono hB.out.size))
  clear hb G6
  go_wp2_with fail
  refine (G7 _ HT.out).out.mono ?_
  rintro e w7 ⟨rfl, hb⟩
  replace HT := Lib.hid (HT.out.later hb)
  replace hB := Lib.hid (hB.out.trans (hb.mono hB.out.size))
  clear hb G7
  go_wp2
  go_ret
  exact ⟨rfl, hB.out⟩

set_option maxRecDepth 100000 in
set_option maxHeartbeats 4000000 in
theorem rootl_pos (a : ByteArray) (x sq r back low nx high : List UInt8) (c0 c1 : Int) (hc0 : 0 ≤ c0) (hc1 : c1 ≤ 0) (w : World) (ht : Tab w)
    (H1 : ∀ W, Tab W → Calls Tryz.prog 12 #[] W fun e w' => e = .returned (.bool true) ∧ Below W.heap.size W w')
    (H2 : ∀ W, Tab W → Calls Tryz.prog 13 #[.string a, .int .i64 80] W fun e w' => e = .returned (txt x) ∧ Below W.heap.size W w')
    (H3 : ∀ W, Tab W → Calls Tryz.prog 21 #[txt x] W fun e w' => e = .returned (.tuple #[txt r, .int .i64 0]) ∧ Below W.heap.size W w')
    (H4 : ∀ W, Tab W → Calls Tryz.prog 15 #[txt x, txt x] W fun e w' => e = .returned (.tuple #[txt sq, .int .i64 0]) ∧ Below W.heap.size W w')
    (H5 : ∀ W, Tab W → Calls Tryz.prog 21 #[txt sq] W fun e w' => e = .returned (.tuple #[txt x, .int .i64 0]) ∧ Below W.heap.size W w')
    (H6 : ∀ W, Tab W → Calls Tryz.prog 14 #[txt x, txt x] W fun e w' => e = .returned (.tuple #[txt back, .int .i64 0]) ∧ Below W.heap.size W w')
    (H7 : ∀ W, Tab W → Calls Tryz.prog 18 #[txt x, .string { data := #[48] }] W fun e w' => e = .returned (.int .i64 c0) ∧ Below W.heap.size W w')
    (H8 : ∀ W, Tab W → Calls Tryz.prog 15 #[txt r, txt r] W fun e w' => e = .returned (.tuple #[txt low, .int .i64 0]) ∧ Below W.heap.size W w')
    (H9 : ∀ W, Tab W → Calls Tryz.prog 14 #[txt r, .string { data := #[49] }] W fun e w' => e = .returned (.tuple #[txt nx, .int .i64 0]) ∧ Below W.heap.size W w')
    (H10 : ∀ W, Tab W → Calls Tryz.prog 15 #[txt nx, txt nx] W fun e w' => e = .returned (.tuple #[txt high, .int .i64 0]) ∧ Below W.heap.size W w')
    (H11 : ∀ W, Tab W → Calls Tryz.prog 18 #[txt low, txt x] W fun e w' => e = .returned (.int .i64 c1) ∧ Below W.heap.size W w')
    (H12 : ∀ W, Tab W → Calls Tryz.prog 18 #[txt high, txt x] W fun e w' => e = .returned (.int .i64 1) ∧ Below W.heap.size W w') :
    Calls Tryz.prog 6 #[.string a] w fun e w' => e = .returned (.bool true) ∧ Below w.heap.size w w' := by
  have HT := Lib.hid ht
  have hB := Lib.hid (Below.refl w.heap.size w)
  clear ht
  have G1 := fun W (hW : Tab W) => Lib.hid (H1 W hW)
  have G2 := fun W (hW : Tab W) => Lib.hid (H2 W hW)
  have G3 := fun W (hW : Tab W) => Lib.hid (H3 W hW)
  have G4 := fun W (hW : Tab W) => Lib.hid (H4 W hW)
  have G5 := fun W (hW : Tab W) => Lib.hid (H5 W hW)
  have G6 := fun W (hW : Tab W) => Lib.hid (H6 W hW)
  have G7 := fun W (hW : Tab W) => Lib.hid (H7 W hW)
  have G8 := fun W (hW : Tab W) => Lib.hid (H8 W hW)
  have G9 := fun W (hW : Tab W) => Lib.hid (H9 W hW)
  have G10 := fun W (hW : Tab W) => Lib.hid (H10 W hW)
  have G11 := fun W (hW : Tab W) => Lib.hid (H11 W hW)
  have G12 := fun W (hW : Tab W) => Lib.hid (H12 W hW)
  clear H1 H2 H3 H4 H5 H6 H7 H8 H9 H10 H11 H12
  go_enter Tryz.func6, Tryz.ntmps6
  go_wp2_with fail
  refine (G1 _ HT.out).out.mono ?_
  rintro e w1 ⟨rfl, hb⟩
  replace HT := Lib.hid (HT.out.later hb)
  replace hB := Lib.hid (hB.out.trans (hb.mono hB.out.size))
  clear hb G1
  go_wp2_with fail
  refine (G2 _ HT.out).out.mono ?_
  rintro e w2 ⟨rfl, hb⟩
  replace HT := Lib.hid (HT.out.later hb)
  replace hB := Lib.hid (hB.out.trans (hb.mono hB.out.size))
  clear hb G2
  go_wp2_with fail
  refine (G3 _ HT.out).out.mono ?_
  rintro e w3 ⟨rfl, hb⟩
  replace HT := Lib.hid (HT.out.later hb)
  replace hB := Lib.hid (hB.out.trans (hb.mono hB.out.size))
  clear hb G3
  go_wp2_with fail
  refine (G4 _ HT.out).out.mono ?_
  rintro e w4 ⟨rfl, hb⟩
  replace HT := Lib.hid (HT.out.later hb)
  replace hB := Lib.hid (hB.out.trans (hb.mono hB.out.size))
  clear hb G4
  go_wp2_with fail
  refine (G5 _ HT.out).out.mono ?_
  rintro e w5 ⟨rfl, hb⟩
  replace HT := Lib.hid (HT.out.later hb)
  replace hB := Lib.hid (hB.out.trans (hb.mono hB.out.size))
  clear hb G5
  go_wp2_with fail
  refine (G6 _ HT.out).out.mono ?_
  rintro e w6 ⟨rfl, hb⟩
  replace HT := Lib.hid (HT.out.later hb)
  replace hB := Lib.hid (hB.out.trans (hb.mono hB.out.size))
  clear hb G6
  go_wp2_with fail
  refine (G7 _ HT.out).out.mono ?_
  rintro e w7 ⟨rfl, hb⟩
  replace HT := Lib.hid (HT.out.later hb)
  replace hB := Lib.hid (hB.out.trans (hb.mono hB.out.size))
  clear hb G7
  go_wp2_with fail
  refine (G8 _ HT.out).out.mono ?_
  rintro e w8 ⟨rfl, hb⟩
  replace HT := Lib.hid (HT.out.later hb)
  replace hB := Lib.hid (hB.out.trans (hb.mono hB.out.size))
  clear hb G8
  go_wp2_with fail
  refine (G9 _ HT.out).out.mono ?_
  rintro e w9 ⟨rfl, hb⟩
  replace HT := Lib.hid (HT.out.later hb)
  replace hB := Lib.hid (hB.out.trans (hb.mono hB.out.size))
  clear hb G9
  go_wp2_with fail
  refine (G10 _ HT.out).out.mono ?_
  rintro e w10 ⟨rfl, hb⟩
  replace HT := Lib.hid (HT.out.later hb)
  replace hB := Lib.hid (hB.out.trans (hb.mono hB.out.size))
  clear hb G10
  go_wp2_with fail
  refine (G11 _ HT.out).out.mono ?_
  rintro e w11 ⟨rfl, hb⟩
  replace HT := Lib.hid (HT.out.later hb)
  replace hB := Lib.hid (hB.out.trans (hb.mono hB.out.size))
  clear hb G11
  go_wp2_with fail
  refine (G12 _ HT.out).out.mono ?_
  rintro e w12 ⟨rfl, hb⟩
  replace HT := Lib.hid (HT.out.later hb)
  replace hB := Lib.hid (hB.out.trans (hb.mono hB.out.size))
  clear hb G12
  go_wp2
  go_ret
  exact ⟨rfl, hB.out⟩
end Go.Proofs.YtabodoellnmofaaGreatDoor
namespace Go.Proofs.YtabodoellnmofaaGreatDoor
open Go.RowKit Go.Shelf

theorem sqrt_exists (n : Nat) : ∃ R : Nat, R * R ≤ n ∧ n < (R + 1) * (R + 1) := by
  induction n with
  | zero => exact ⟨0, by omega, by omega⟩
  | succ n ih =>
    obtain ⟨R, h1, h2⟩ := ih
    by_cases h : n + 1 < (R + 1) * (R + 1)
    · exact ⟨R, by omega, h⟩
    · refine ⟨R + 1, by omega, ?_⟩
      have : (R + 1) * (R + 1) < (R + 1 + 1) * (R + 1 + 1) := Nat.mul_lt_mul'' (Nat.lt_succ_self _) (Nat.lt_succ_self _)
      omega

theorem rootl_any (a : ByteArray) (w : World) (ht : Tab w) :
    Calls Tryz.prog 6 #[.string a] w fun e w' => e = .returned (.bool true) ∧ Below w.heap.size w w' := by
  have hX := madeZ_lt a.data.toList 80
  obtain ⟨X, eX⟩ : ∃ X, X = madeZ a.data.toList 80 := ⟨_, rfl⟩
  rw [← eX] at hX
  have bX := Nat.lt_of_lt_of_le hX (show (10 : Nat) ^ 80 ≤ 10 ^ 200 by decide +kernel)
  have hs := fun W hW => sane_any W hW
  have m1 := made_is a 80 (by omega) (Lib.itoa X) (by rw [eX])
  have bS : (X * X).natAbs < 10 ^ 200 := Nat.lt_of_lt_of_le (abs_mul hX hX (Nat.le_refl _)) (by decide +kernel)
  have hsq : (X * X).natAbs = X.natAbs * X.natAbs := Int.natAbs_mul X X
  have hsq0 : 0 ≤ X * X := by
    rcases Int.le_total 0 X with h | h
    · exact Int.mul_nonneg h h
    · exact Int.mul_nonneg_of_nonpos_of_nonpos h h
  have p1 := mul_is X X (X * X) _ _ _ bX bX bS rfl rfl rfl rfl
  have r2 := root_is (X * X) X.natAbs _ _ hsq0 bS bX (by rw [hsq]; exact Nat.le_refl _) (by rw [hsq]; exact Nat.mul_lt_mul'' (Nat.lt_succ_self _) (Nat.lt_succ_self _)) rfl rfl
  by_cases h0 : X < 0
  · have e1 : ((X.natAbs : Nat) : Int) + X = 0 := by omega
    refine rootl_neg a (Lib.itoa X) (Lib.itoa (X * X)) (Lib.itoa (X.natAbs : Int)) (itoa_neb (by omega)) w ht hs m1 (fun W _ => root_neg X W h0 bX) p1 r2 ?_ (cmp_is X 0 (-1) _ [48] bX abs0 (sgn_of_lt h0) rfl zero_txt)
    exact add_is (X.natAbs : Int) X 0 _ _ [48] (by simpa using bX) bX abs0 e1 rfl rfl zero_txt
  · have e0 : (X.natAbs : Int) = X := by omega
    rw [e0] at r2
    obtain ⟨R, h1, h2⟩ := sqrt_exists X.natAbs
    have hR : R ≤ X.natAbs := by
      rcases Nat.eq_zero_or_pos R with h | h
      · omega
      · exact Nat.le_trans (Nat.le_mul_of_pos_right R h) h1
    have hR' : ((R : Nat) : Int).natAbs < 10 ^ 80 := by simpa using Nat.lt_of_le_of_lt hR hX
    have hN' : ((R : Int) + 1).natAbs < 10 ^ 81 := by
      have : (10 : Nat) ^ 80 < 10 ^ 81 := by decide +kernel
      omega
    have bR := Nat.lt_of_lt_of_le hR' (show (10 : Nat) ^ 80 ≤ 10 ^ 200 by decide +kernel)
    have bN := Nat.lt_of_lt_of_le hN' (show (10 : Nat) ^ 81 ≤ 10 ^ 200 by decide +kernel)
    have bL : ((R : Int) * R).natAbs < 10 ^ 200 := Nat.lt_of_lt_of_le (abs_mul hR' hR' (Nat.le_refl _)) (by decide +kernel)
    have bH : (((R : Int) + 1) * ((R : Int) + 1)).natAbs < 10 ^ 200 := Nat.lt_of_lt_of_le (abs_mul hN' hN' (Nat.le_refl _)) (by decide +kernel)
    have bB : (X + X).natAbs < 10 ^ 200 := Nat.lt_of_lt_of_le (abs_add hX hX (Nat.le_refl _)) (by decide +kernel)
    have i1 : (R : Int) * R ≤ X := by rw [← e0]; exact_mod_cast h1
    have i2 : X < ((R : Int) + 1) * ((R : Int) + 1) := by rw [← e0]; exact_mod_cast h2
    exact rootl_pos a _ _ _ _ _ _ _ (sgn X 0) (sgn ((R : Int) * R) X) (sgn_ge (by omega)) (sgn_le i1) w ht hs m1
      (root_is X R _ (Lib.itoa (R : Int)) (by omega) bX (by simpa using bR) h1 h2 rfl rfl) p1 r2 (add_is X X (X + X) _ _ _ bX bX bB rfl rfl rfl rfl)
      (cmp_is X 0 _ _ [48] bX abs0 rfl rfl zero_txt) (mul_is R R ((R : Int) * R) _ _ _ bR bR bL rfl rfl rfl rfl) (add_is R 1 ((R : Int) + 1) _ [49] _ bR abs1 bN rfl rfl one_txt rfl)
      (mul_is ((R : Int) + 1) ((R : Int) + 1) _ _ _ _ bN bN bH rfl rfl rfl rfl) (cmp_is ((R : Int) * R) X _ _ _ bL bX rfl rfl rfl) (cmp_is (((R : Int) + 1) * ((R : Int) + 1)) X 1 _ _ bH bX (sgn_of_gt i2) rfl rfl)
end Go.Proofs.YtabodoellnmofaaGreatDoor
