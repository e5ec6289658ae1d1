/- IntegerRing: the walk, and that it answers true. -/
import Derived.Test.YtabodoellnmofaaGreatDoorSane
namespace Go.Proofs.YtabodoellnmofaaGreatDoor
open Go.RowKit Go.Shelf

set_option maxRecDepth 100000 in
set_option maxHeartbeats 8000000 in
theorem ring_walk (a b c : ByteArray) (x y z xy xyz yz p pz r lf xz d : List UInt8) (w : World) (ht : Tab w)
    (H1 : ∀ W, Tab W → Calls Tryz.prog 12 #[] W fun e w' => e = .returned (.bool true) ∧ Below W.heap.size W w')
    (H2 : ∀ W, Tab W → Calls Tryz.prog 13 #[.string a, .int .i64 60] W fun e w' => e = .returned (txt x) ∧ Below W.heap.size W w')
    (H3 : ∀ W, Tab W → Calls Tryz.prog 13 #[.string b, .int .i64 60] W fun e w' => e = .returned (txt y) ∧ Below W.heap.size W w')
    (H4 : ∀ W, Tab W → Calls Tryz.prog 13 #[.string c, .int .i64 60] W fun e w' => e = .returned (txt z) ∧ Below W.heap.size W w')
    (H5 : ∀ W, Tab W → Calls Tryz.prog 14 #[txt x, txt y] W fun e w' => e = .returned (.tuple #[txt xy, .int .i64 0]) ∧ Below W.heap.size W w')
    (H6 : ∀ W, Tab W → Calls Tryz.prog 14 #[txt y, txt x] W fun e w' => e = .returned (.tuple #[txt xy, .int .i64 0]) ∧ Below W.heap.size W w')
    (H7 : ∀ W, Tab W → Calls Tryz.prog 14 #[txt xy, txt z] W fun e w' => e = .returned (.tuple #[txt xyz, .int .i64 0]) ∧ Below W.heap.size W w')
    (H8 : ∀ W, Tab W → Calls Tryz.prog 14 #[txt y, txt z] W fun e w' => e = .returned (.tuple #[txt yz, .int .i64 0]) ∧ Below W.heap.size W w')
    (H9 : ∀ W, Tab W → Calls Tryz.prog 14 #[txt x, txt yz] W fun e w' => e = .returned (.tuple #[txt xyz, .int .i64 0]) ∧ Below W.heap.size W w')
    (H10 : ∀ W, Tab W → Calls Tryz.prog 15 #[txt x, txt y] W fun e w' => e = .returned (.tuple #[txt p, .int .i64 0]) ∧ Below W.heap.size W w')
    (H11 : ∀ W, Tab W → Calls Tryz.prog 15 #[txt y, txt x] W fun e w' => e = .returned (.tuple #[txt p, .int .i64 0]) ∧ Below W.heap.size W w')
    (H12 : ∀ W, Tab W → Calls Tryz.prog 15 #[txt p, txt z] W fun e w' => e = .returned (.tuple #[txt pz, .int .i64 0]) ∧ Below W.heap.size W w')
    (H13 : ∀ W, Tab W → Calls Tryz.prog 15 #[txt y, txt z] W fun e w' => e = .returned (.tuple #[txt r, .int .i64 0]) ∧ Below W.heap.size W w')
    (H14 : ∀ W, Tab W → Calls Tryz.prog 15 #[txt x, txt r] W fun e w' => e = .returned (.tuple #[txt pz, .int .i64 0]) ∧ Below W.heap.size W w')
    (H15 : ∀ W, Tab W → Calls Tryz.prog 15 #[txt xy, txt z] W fun e w' => e = .returned (.tuple #[txt lf, .int .i64 0]) ∧ Below W.heap.size W w')
    (H16 : ∀ W, Tab W → Calls Tryz.prog 15 #[txt x, txt z] W fun e w' => e = .returned (.tuple #[txt xz, .int .i64 0]) ∧ Below W.heap.size W w')
    (H17 : ∀ W, Tab W → Calls Tryz.prog 14 #[txt xz, txt r] W fun e w' => e = .returned (.tuple #[txt lf, .int .i64 0]) ∧ Below W.heap.size W w')
    (H18 : ∀ W, Tab W → Calls Tryz.prog 16 #[txt x, txt y] W fun e w' => e = .returned (.tuple #[txt d, .int .i64 0]) ∧ Below W.heap.size W w')
    (H19 : ∀ W, Tab W → Calls Tryz.prog 14 #[txt d, txt y] W fun e w' => e = .returned (.tuple #[txt x, .int .i64 0]) ∧ Below W.heap.size W w')
    (H20 : ∀ W, Tab W → Calls Tryz.prog 15 #[txt x, .string { data := #[49] }] W fun e w' => e = .returned (.tuple #[txt x, .int .i64 0]) ∧ Below W.heap.size W w')
    (H21 : ∀ W, Tab W → Calls Tryz.prog 15 #[txt x, .string { data := #[48] }] W fun e w' => e = .returned (.tuple #[.string { data := #[48] }, .int .i64 0]) ∧ Below W.heap.size W w') :
    Calls Tryz.prog 3 #[.string a, .string b, .string c] w fun e w' => e = .returned (.bool true) ∧ Below w.heap.size w w' := by
  have HT := Lib.hid ht
  have hB := Lib.hid (Below.refl w.heap.size w)
  clear ht
  have G1 := fun W (hW : Tab W) => Lib.hid (H1 W hW)
  have G2 := fun W (hW : Tab W) => Lib.hid (H2 W hW)
  have G3 := fun W (hW : Tab W) => Lib.hid (H3 W hW)
  have G4 := fun W (hW : Tab W) => Lib.hid (H4 W hW)
  have G5 := fun W (hW : Tab W) => Lib.hid (H5 W hW)
  have G6 := fun W (hW : Tab W) => Lib.hid (H6 W hW)
  have G7 := fun W (hW : Tab W) => Lib.hid (H7 W hW)
  have G8 := fun W (hW : Tab W) => Lib.hid (H8 W hW)
  have G9 := fun W (hW : Tab W) => Lib.hid (H9 W hW)
  have G10 := fun W (hW : Tab W) => Lib.hid (H10 W hW)
  have G11 := fun W (hW : Tab W) => Lib.hid (H11 W hW)
  have G12 := fun W (hW : Tab W) => Lib.hid (H12 W hW)
  have G13 := fun W (hW : Tab W) => Lib.hid (H13 W hW)
  have G14 := fun W (hW : Tab W) => Lib.hid (H14 W hW)
  have G15 := fun W (hW : Tab W) => Lib.hid (H15 W hW)
  have G16 := fun W (hW : Tab W) => Lib.hid (H16 W hW)
  have G17 := fun W (hW : Tab W) => Lib.hid (H17 W hW)
  have G18 := fun W (hW : Tab W) => Lib.hid (H18 W hW)
  have G19 := fun W (hW : Tab W) => Lib.hid (H19 W hW)
  have G20 := fun W (hW : Tab W) => Lib.hid (H20 W hW)
  have G21 := fun W (hW : Tab W) => Lib.hid (H21 W hW)
  clear H1 H2 H3 H4 H5 H6 H7 H8 H9 H10 H11 H12 H13 H14 H15 H16 H17 H18 H19 H20 H21
  go_enter Tryz.func3, Tryz.ntmps3
  go_wp2_with fail
  refine (G1 _ HT.out).out.mono ?_
  rintro e w1 ⟨rfl, hb⟩
  replace HT := Lib.hid (HT.out.later hb)
  replace hB := Lib.hid (hB.out.trans (hb.mono hB.out.size))
  clear hb G1
  go_wp2_with fail
  refine (G2 _ HT.out).out.mono ?_
  rintro e w2 ⟨rfl, hb⟩
  replace HT := Lib.hid (HT.out.later hb)
  replace hB := Lib.hid (hB.out.trans (hb.mono hB.out.size))
  clear hb G2
  go_wp2_with fail
  refine (G3 _ HT.out).out.mono ?_
  rintro e w3 ⟨rfl, hb⟩
  replace HT := Lib.hid (HT.out.later hb)
  replace hB := Lib.hid (hB.out.trans (hb.mono hB.out.size))
  clear hb G3
  go_wp2_with fail
  refine (G4 _ HT.out).out.mono ?_
  rintro e w4 ⟨rfl, hb⟩
  replace HT := Lib.hid (HT.out.later hb)
  replace hB := Lib.hid (hB.out.trans (hb.mono hB.out.size))
  clear hb G4
  go_wp2_with fail
  refine (G5 _ HT.out).out.mono ?_
  rintro e w5 ⟨rfl, hb⟩
  replace HT := Lib.hid (HT.out.later hb)
  replace hB := Lib.hid (hB.out.trans (hb.mono hB.out.size))
  clear hb G5
  go_wp2_with fail
  refine (G6 _ HT.out).out.mono ?_
  rintro e w6 ⟨rfl, hb⟩
  replace HT := Lib.hid (HT.out.later hb)
  replace hB := Lib.hid (hB.out.trans (hb.mono hB.out.size))
  clear hb G6
  go_wp2_with fail
  refine (G7 _ HT.out).out.mono ?_
  rintro e w7 ⟨rfl, hb⟩
  replace HT := Lib.hid (HT.out.later hb)
  replace hB := Lib.hid (hB.out.trans (hb.mono hB.out.size))
  clear hb G7
  go_wp2_with fail
  refine (G8 _ HT.out).out.mono ?_
  rintro e w8 ⟨rfl, hb⟩
  replace HT := Lib.hid (HT.out.later hb)
  replace hB := Lib.hid (hB.out.trans (hb.mono hB.out.size))
  clear hb G8
  go_wp2_with fail
  refine (G9 _ HT.out).out.mono ?_
  rintro e w9 ⟨rfl, hb⟩
  replace HT := Lib.hid (HT.out.later hb)
  replace hB := Lib.hid (hB.out.trans (hb.mono hB.out.size))
  clear hb G9
  go_wp2_with fail
  refine (G10 _ HT.out).out.mono ?_
  rintro e w10 ⟨rfl, hb⟩
  replace HT := Lib.hid (HT.out.later hb)
  replace hB := Lib.hid (hB.out.trans (hb.mono hB.out.size))
  clear hb G10
  go_wp2_with fail
  refine (G11 _ HT.out).out.mono ?_
  rintro e w11 ⟨rfl, hb⟩
  replace HT := Lib.hid (HT.out.later hb)
  replace hB := Lib.hid (hB.out.trans (hb.mono hB.out.size))
  clear hb G11
  go_wp2_with fail
  refine (G12 _ HT.out).out.mono ?_
  rintro e w12 ⟨rfl, hb⟩
  replace HT := Lib.hid (HT.out.later hb)
  replace hB := Lib.hid (hB.out.trans (hb.mono hB.out.size))
  clear hb G12
  go_wp2_with fail
  refine (G13 _ HT.out).out.mono ?_
  rintro e w13 ⟨rfl, hb⟩
  replace HT := Lib.hid (HT.out.later hb)
  replace hB := Lib.hid (hB.out.trans (hb.mono hB.out.size))
  clear hb G13
  go_wp2_with fail
  refine (G14 _ HT.out).out.mono ?_
  rintro e w14 ⟨rfl, hb⟩
  replace HT := Lib.hid (HT.out.later hb)
  replace hB := Lib.hid (hB.out.trans (hb.mono hB.out.size))
  clear hb G14
  go_wp2_with fail
  refine (G15 _ HT.out).out.mono ?_
  rintro e w15 ⟨rfl, hb⟩
  replace HT := Lib.hid (HT.out.later hb)
  replace hB := Lib.hid (hB.out.trans (hb.mono hB.out.size))
  clear hb G15
  go_wp2_with fail
  refine (G16 _ HT.out).out.mono ?_
  rintro e w16 ⟨rfl, hb⟩
  replace HT := Lib.hid (HT.out.later hb)
  replace hB := Lib.hid (hB.out.trans (hb.mono hB.out.size))
  clear hb G16
  go_wp2_with fail
  refine (G17 _ HT.out).out.mono ?_
  rintro e w17 ⟨rfl, hb⟩
  replace HT := Lib.hid (HT.out.later hb)
  replace hB := Lib.hid (hB.out.trans (hb.mono hB.out.size))
  clear hb G17
  go_wp2_with fail
  refine (G18 _ HT.out).out.mono ?_
  rintro e w18 ⟨rfl, hb⟩
  replace HT := Lib.hid (HT.out.later hb)
  replace hB := Lib.hid (hB.out.trans (hb.mono hB.out.size))
  clear hb G18
  go_wp2_with fail
  refine (G19 _ HT.out).out.mono ?_
  rintro e w19 ⟨rfl, hb⟩
  replace HT := Lib.hid (HT.out.later hb)
  replace hB := Lib.hid (hB.out.trans (hb.mono hB.out.size))
  clear hb G19
  go_wp2_with fail
  refine (G20 _ HT.out).out.mono ?_
  rintro e w20 ⟨rfl, hb⟩
  replace HT := Lib.hid (HT.out.later hb)
  replace hB := Lib.hid (hB.out.trans (hb.mono hB.out.size))
  clear hb G20
  go_wp2_with fail
  refine (G21 _ HT.out).out.mono ?_
  rintro e w21 ⟨rfl, hb⟩
  replace HT := Lib.hid (HT.out.later hb)
  replace hB := Lib.hid (hB.out.trans (hb.mono hB.out.size))
  clear hb G21
  go_wp2
  go_ret
  exact ⟨rfl, hB.out⟩
end Go.Proofs.YtabodoellnmofaaGreatDoor
namespace Go.Proofs.YtabodoellnmofaaGreatDoor
open Go.RowKit Go.Shelf

theorem ring_any (a b c : ByteArray) (w : World) (ht : Tab w) :
    Calls Tryz.prog 3 #[.string a, .string b, .string c] w fun e w' => e = .returned (.bool true) ∧ Below w.heap.size w w' := by
  have hX := madeZ_lt a.data.toList 60
  have hY := madeZ_lt b.data.toList 60
  have hZ := madeZ_lt c.data.toList 60
  obtain ⟨X, eX⟩ : ∃ X, X = madeZ a.data.toList 60 := ⟨_, rfl⟩
  obtain ⟨Y, eY⟩ : ∃ Y, Y = madeZ b.data.toList 60 := ⟨_, rfl⟩
  obtain ⟨Z, eZ⟩ : ∃ Z, Z = madeZ c.data.toList 60 := ⟨_, rfl⟩
  rw [← eX] at hX
  rw [← eY] at hY
  rw [← eZ] at hZ
  have l60 : (10 : Nat) ^ 60 ≤ 10 ^ 200 := by decide +kernel
  have bX := Nat.lt_of_lt_of_le hX l60
  have bY := Nat.lt_of_lt_of_le hY l60
  have bZ := Nat.lt_of_lt_of_le hZ l60
  have h1 : (X + Y).natAbs < 10 ^ 61 := abs_add hX hY (by decide +kernel)
  have h2 : (Y + Z).natAbs < 10 ^ 61 := abs_add hY hZ (by decide +kernel)
  have h3 : (X + Y + Z).natAbs < 10 ^ 62 := abs_add h1 hZ (by decide +kernel)
  have h4 : (X * Y).natAbs < 10 ^ 120 := abs_mul hX hY (by decide +kernel)
  have h5 : (Y * Z).natAbs < 10 ^ 120 := abs_mul hY hZ (by decide +kernel)
  have h6 : (X * Z).natAbs < 10 ^ 120 := abs_mul hX hZ (by decide +kernel)
  have h7 : (X * Y * Z).natAbs < 10 ^ 180 := abs_mul h4 hZ (by decide +kernel)
  have h8 : ((X + Y) * Z).natAbs < 10 ^ 180 := abs_mul h1 hZ (by decide +kernel)
  have h9 : (X - Y).natAbs < 10 ^ 61 := abs_sub hX hY (by decide +kernel)
  have b1 := Nat.lt_of_lt_of_le h1 (show (10 : Nat) ^ 61 ≤ 10 ^ 200 by decide +kernel)
  have b2 := Nat.lt_of_lt_of_le h2 (show (10 : Nat) ^ 61 ≤ 10 ^ 200 by decide +kernel)
  have b3 := Nat.lt_of_lt_of_le h3 (show (10 : Nat) ^ 62 ≤ 10 ^ 200 by decide +kernel)
  have b4 := Nat.lt_of_lt_of_le h4 (show (10 : Nat) ^ 120 ≤ 10 ^ 200 by decide +kernel)
  have b5 := Nat.lt_of_lt_of_le h5 (show (10 : Nat) ^ 120 ≤ 10 ^ 200 by decide +kernel)
  have b6 := Nat.lt_of_lt_of_le h6 (show (10 : Nat) ^ 120 ≤ 10 ^ 200 by decide +kernel)
  have b7 := Nat.lt_of_lt_of_le h7 (show (10 : Nat) ^ 180 ≤ 10 ^ 200 by decide +kernel)
  have b8 := Nat.lt_of_lt_of_le h8 (show (10 : Nat) ^ 180 ≤ 10 ^ 200 by decide +kernel)
  have b9 := Nat.lt_of_lt_of_le h9 (show (10 : Nat) ^ 61 ≤ 10 ^ 200 by decide +kernel)
  have one : Lib.itoa 1 = [49] := by decide +kernel
  have zero : Lib.itoa 0 = [48] := by decide +kernel
  have s1 : (1 : Int).natAbs < 10 ^ 200 := by decide +kernel
  have s0 : (0 : Int).natAbs < 10 ^ 200 := by decide +kernel
  exact ring_walk a b c (Lib.itoa X) (Lib.itoa Y) (Lib.itoa Z) (Lib.itoa (X + Y)) (Lib.itoa (X + Y + Z)) (Lib.itoa (Y + Z)) (Lib.itoa (X * Y)) (Lib.itoa (X * Y * Z)) (Lib.itoa (Y * Z)) (Lib.itoa ((X + Y) * Z)) (Lib.itoa (X * Z)) (Lib.itoa (X - Y)) w ht
    (fun W hW => sane_any W hW)
    (made_is a 60 (by omega) _ (by rw [eX])) (made_is b 60 (by omega) _ (by rw [eY])) (made_is c 60 (by omega) _ (by rw [eZ]))
    (add_is X Y (X + Y) _ _ _ bX bY b1 rfl rfl rfl rfl) (add_is Y X (X + Y) _ _ _ bY bX b1 (Int.add_comm _ _) rfl rfl rfl)
    (add_is (X + Y) Z (X + Y + Z) _ _ _ b1 bZ b3 rfl rfl rfl rfl) (add_is Y Z (Y + Z) _ _ _ bY bZ b2 rfl rfl rfl rfl) (add_is X (Y + Z) (X + Y + Z) _ _ _ bX b2 b3 (Int.add_assoc _ _ _).symm rfl rfl rfl)
    (mul_is X Y (X * Y) _ _ _ bX bY b4 rfl rfl rfl rfl) (mul_is Y X (X * Y) _ _ _ bY bX b4 (Int.mul_comm _ _) rfl rfl rfl)
    (mul_is (X * Y) Z (X * Y * Z) _ _ _ b4 bZ b7 rfl rfl rfl rfl) (mul_is Y Z (Y * Z) _ _ _ bY bZ b5 rfl rfl rfl rfl) (mul_is X (Y * Z) (X * Y * Z) _ _ _ bX b5 b7 (Int.mul_assoc _ _ _).symm rfl rfl rfl)
    (mul_is (X + Y) Z ((X + Y) * Z) _ _ _ b1 bZ b8 rfl rfl rfl rfl) (mul_is X Z (X * Z) _ _ _ bX bZ b6 rfl rfl rfl rfl) (add_is (X * Z) (Y * Z) ((X + Y) * Z) _ _ _ b6 b5 b8 (Int.add_mul _ _ _).symm rfl rfl rfl)
    (sub_is X Y (X - Y) _ _ _ bX bY b9 rfl rfl rfl rfl) (add_is (X - Y) Y X _ _ _ b9 bY bX (by omega) rfl rfl rfl)
    (mul_is X 1 X _ [49] _ bX s1 bX (Int.mul_one _) rfl one rfl) (mul_is X 0 0 _ [48] [48] bX s0 s0 (Int.mul_zero _) rfl zero zero)
end Go.Proofs.YtabodoellnmofaaGreatDoor
