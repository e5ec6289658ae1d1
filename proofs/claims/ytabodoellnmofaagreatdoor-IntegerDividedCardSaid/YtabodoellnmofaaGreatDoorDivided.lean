/- IntegerDivided: the walks, and that it answers true. -/
import Derived.Test.YtabodoellnmofaaGreatDoorMade
import Derived.Test.YtabodoellnmofaaGreatDoorSane
namespace Go.Proofs.YtabodoellnmofaaGreatDoor
open Go.RowKit Go.Shelf

set_option maxRecDepth 100000 in
set_option maxHeartbeats 4000000 in
theorem divided_zero (a b : ByteArray) (x : List UInt8) (w : World) (ht : Tab w)
    (H1 : ∀ W, Tab W → Calls Tryz.prog 12 #[] W fun e w' => e = .returned (.bool true) ∧ Below W.heap.size W w')
    (H2 : ∀ W, Tab W → Calls Tryz.prog 13 #[.string a, .int .i64 90] W fun e w' => e = .returned (txt x) ∧ Below W.heap.size W w')
    (H3 : ∀ W, Tab W → Calls Tryz.prog 13 #[.string b, .int .i64 60] W fun e w' => e = .returned (.string { data := #[48] }) ∧ Below W.heap.size W w')
    (H4 : ∀ W, Tab W → Calls Tryz.prog 17 #[txt x, .string { data := #[48] }] W fun e w' => e = .returned (.tuple #[.string { data := #[] }, .string { data := #[] }, .int .i64 30]) ∧ Below W.heap.size W w') :
    Calls Tryz.prog 4 #[.string a, .string b] w fun e w' => e = .returned (.bool true) ∧ Below w.heap.size w w' := by
  have HT := Lib.hid ht
  have hB := Lib.hid (Below.refl w.heap.size w)
  clear ht
  have G1 := fun W (hW : Tab W) => Lib.hid (H1 W hW)
  have G2 := fun W (hW : Tab W) => Lib.hid (H2 W hW)
  have G3 := fun W (hW : Tab W) => Lib.hid (H3 W hW)
  have G4 := fun W (hW : Tab W) => Lib.hid (H4 W hW)
  clear H1 H2 H3 H4
  go_enter Tryz.func4, Tryz.ntmps4
  go_wp2_with fail
  refine (G1 _ HT.out).out.mono ?_
  rintro e w1 ⟨rfl, hb⟩
  replace HT := Lib.hid (HT.out.later hb)
  replace hB := Lib.hid (hB.out.trans (hb.mono hB.out.size))
  clear hb G1
  go_wp2_with fail
  refine (G2 _ HT.out).out.mono ?_
  rintro e w2 ⟨rfl, hb⟩
  replace HT := Lib.hid (HT.out.later hb)
  replace hB := Lib.hid (hB.out.trans (hb.mono hB.out.size))
  clear hb G2
  go_wp2_with fail
  refine (G3 _ HT.out).out.mono ?_
  rintro e w3 ⟨rfl, hb⟩
  replace HT := Lib.hid (HT.out.later hb)
  replace hB := Lib.hid (hB.out.trans (hb.mono hB.out.size))
  clear hb G3
  go_wp2_with fail
  refine (G4 _ HT.out).out.mono ?_
  rintro e w4 ⟨rfl, hb⟩
  replace HT := Lib.hid (HT.out.later hb)
  replace hB := Lib.hid (hB.out.trans (hb.mono hB.out.size))
  clear hb G4
  go_wp2
  go_ret
  exact ⟨rfl, hB.out⟩

set_option maxRecDepth 100000 in
set_option maxHeartbeats 8000000 in
theorem divided_pos (a b : ByteArray) (x y q r p pr : List UInt8) (c : Int) (hc : 0 ≤ c) (hneb : (y == [48]) = false) (w : World) (ht : Tab w)
    (H1 : ∀ W, Tab W → Calls Tryz.prog 12 #[] W fun e w' => e = .returned (.bool true) ∧ Below W.heap.size W w')
    (H2 : ∀ W, Tab W → Calls Tryz.prog 13 #[.string a, .int .i64 90] W fun e w' => e = .returned (txt x) ∧ Below W.heap.size W w')
    (H3 : ∀ W, Tab W → Calls Tryz.prog 13 #[.string b, .int .i64 60] W fun e w' => e = .returned (txt y) ∧ Below W.heap.size W w')
    (H4 : ∀ W, Tab W → Calls Tryz.prog 17 #[txt x, txt y] W fun e w' => e = .returned (.tuple #[txt q, txt r, .int .i64 0]) ∧ Below W.heap.size W w')
    (H5 : ∀ W, Tab W → Calls Tryz.prog 15 #[txt q, txt y] W fun e w' => e = .returned (.tuple #[txt p, .int .i64 0]) ∧ Below W.heap.size W w')
    (H6 : ∀ W, Tab W → Calls Tryz.prog 14 #[txt p, txt r] W fun e w' => e = .returned (.tuple #[txt x, .int .i64 0]) ∧ Below W.heap.size W w')
    (H7 : ∀ W, Tab W → Calls Tryz.prog 15 #[txt y, .string { data := #[49] }] W fun e w' => e = .returned (.tuple #[txt y, .int .i64 0]) ∧ Below W.heap.size W w')
    (H8 : ∀ W, Tab W → Calls Tryz.prog 18 #[txt y, .string { data := #[48] }] W fun e w' => e = .returned (.int .i64 1) ∧ Below W.heap.size W w')
    (H9 : ∀ W, Tab W → Calls Tryz.prog 15 #[txt x, txt y] W fun e w' => e = .returned (.tuple #[txt pr, .int .i64 0]) ∧ Below W.heap.size W w')
    (H10 : ∀ W, Tab W → Calls Tryz.prog 17 #[txt pr, txt y] W fun e w' => e = .returned (.tuple #[txt x, .string { data := #[48] }, .int .i64 0]) ∧ Below W.heap.size W w')
    (H11 : ∀ W, Tab W → Calls Tryz.prog 18 #[txt r, .string { data := #[48] }] W fun e w' => e = .returned (.int .i64 c) ∧ Below W.heap.size W w')
    (H12 : ∀ W, Tab W → Calls Tryz.prog 18 #[txt r, txt y] W fun e w' => e = .returned (.int .i64 (-1)) ∧ Below W.heap.size W w')
    (H13 : ∀ W, Tab W → Calls Tryz.prog 19 #[txt r] W fun e w' => e = .returned (.bool true) ∧ Below W.heap.size W w') :
    Calls Tryz.prog 4 #[.string a, .string b] w fun e w' => e = .returned (.bool true) ∧ Below w.heap.size w w' := by
  have HT := Lib.hid ht
  have hB := Lib.hid (Below.refl w.heap.size w)
  clear ht
  have G1 := fun W (hW : Tab W) => Lib.hid (H1 W hW)
  have G2 := fun W (hW : Tab W) => Lib.hid (H2 W hW)
  have G3 := fun W (hW : Tab W) => Lib.hid (H3 W hW)
  have G4 := fun W (hW : Tab W) => Lib.hid (H4 W hW)
  have G5 := fun W (hW : Tab W) => Lib.hid (H5 W hW)
  have G6 := fun W (hW : Tab W) => Lib.hid (H6 W hW)
  have G7 := fun W (hW : Tab W) => Lib.hid (H7 W hW)
  have G8 := fun W (hW : Tab W) => Lib.hid (H8 W hW)
  have G9 := fun W (hW : Tab W) => Lib.hid (H9 W hW)
  have G10 := fun W (hW : Tab W) => Lib.hid (H10 W hW)
  have G11 := fun W (hW : Tab W) => Lib.hid (H11 W hW)
  have G12 := fun W (hW : Tab W) => Lib.hid (H12 W hW)
  have G13 := fun W (hW : Tab W) => Lib.hid (H13 W hW)
  clear H1 H2 H3 H4 H5 H6 H7 H8 H9 H10 H11 H12 H13
  go_enter Tryz.func4, Tryz.ntmps4
  go_wp2_with fail
  refine (G1 _ HT.out).out.mono ?_
  rintro e w1 ⟨rfl, hb⟩
  replace HT := Lib.hid (HT.out.later hb)
  replace hB := Lib.hid (hB.out.trans (hb.mono hB.out.size))
  clear hb G1
  go_wp2_with fail
  refine (G2 _ HT.out).out.mono ?_
  rintro e w2 ⟨rfl, hb⟩
  replace HT := Lib.hid (HT.out.later hb)
  replace hB := Lib.hid (hB.out.trans (hb.mono hB.out.size))
  clear hb G2
  go_wp2_with fail
  refine (G3 _ HT.out).out.mono ?_
  rintro e w3 ⟨rfl, hb⟩
  replace HT := Lib.hid (HT.out.later hb)
  replace hB := Lib.hid (hB.out.trans (hb.mono hB.out.size))
  clear hb G3
  go_wp2_with fail
  refine (G4 _ HT.out).out.mono ?_
  rintro e w4 ⟨rfl, hb⟩
  replace HT := Lib.hid (HT.out.later hb)
  replace hB := Lib.hid (hB.out.trans (hb.mono hB.out.size))
  clear hb G4
  go_wp2_with fail
  refine (G5 _ HT.out).out.mono ?_
  rintro e w5 ⟨rfl, hb⟩
  replace HT := Lib.hid (HT.out.later hb)
  replace hB := Lib.hid (hB.out.trans (hb.mono hB.out.size))
  clear hb G5
  go_wp2_with fail
  refine (G6 _ HT.out).out.mono ?_
  rintro e w6 ⟨rfl, hb⟩
  replace HT := Lib.hid (HT.out.later hb)
  replace hB := Lib.hid (hB.out.trans (hb.mono hB.out.size))
  clear hb G6
  go_wp2_with fail
  refine (G7 _ HT.out).out.mono ?_
  rintro e w7 ⟨rfl, hb⟩
  replace HT := Lib.hid (HT.out.later hb)
  replace hB := Lib.hid (hB.out.trans (hb.mono hB.out.size))
  clear hb G7
  go_wp2_with fail
  refine (G8 _ HT.out).out.mono ?_
  rintro e w8 ⟨rfl, hb⟩
  replace HT := Lib.hid (HT.out.later hb)
  replace hB := Lib.hid (hB.out.trans (hb.mono hB.out.size))
  clear hb G8
  go_wp2_with fail
  refine (G9 _ HT.out).out.mono ?_
  rintro e w9 ⟨rfl, hb⟩
  replace HT := Lib.hid (HT.out.later hb)
  replace hB := Lib.hid (hB.out.trans (hb.mono hB.out.size))
  clear hb G9
  go_wp2_with fail
  refine (G10 _ HT.out).out.mono ?_
  rintro e w10 ⟨rfl, hb⟩
  replace HT := Lib.hid (HT.out.later hb)
  replace hB := Lib.hid (hB.out.trans (hb.mono hB.out.size))
  clear hb G10
  go_wp2_with fail
  refine (G11 _ HT.out).out.mono ?_
  rintro e w11 ⟨rfl, hb⟩
  replace HT := Lib.hid (HT.out.later hb)
  replace hB := Lib.hid (hB.out.trans (hb.mono hB.out.size))
  clear hb G11
  go_wp2_with fail
  refine (G12 _ HT.out).out.mono ?_
  rintro e w12 ⟨rfl, hb⟩
  replace HT := Lib.hid (HT.out.later hb)
  replace hB := Lib.hid (hB.out.trans (hb.mono hB.out.size))
  clear hb G12
  go_wp2_with fail
  refine (G13 _ HT.out).out.mono ?_
  rintro e w13 ⟨rfl, hb⟩
  replace HT := Lib.hid (HT.out.later hb)
  replace hB := Lib.hid (hB.out.trans (hb.mono hB.out.size))
  clear hb G13
  go_wp2
  go_ret
  exact ⟨rfl, hB.out⟩

set_option maxRecDepth 100000 in
set_option maxHeartbeats 8000000 in
theorem divided_neg (a b : ByteArray) (x y q r p pr sz : List UInt8) (c : Int) (hc : 0 ≤ c) (hneb : (y == [48]) = false) (w : World) (ht : Tab w)
    (H1 : ∀ W, Tab W → Calls Tryz.prog 12 #[] W fun e w' => e = .returned (.bool true) ∧ Below W.heap.size W w')
    (H2 : ∀ W, Tab W → Calls Tryz.prog 13 #[.string a, .int .i64 90] W fun e w' => e = .returned (txt x) ∧ Below W.heap.size W w')
    (H3 : ∀ W, Tab W → Calls Tryz.prog 13 #[.string b, .int .i64 60] W fun e w' => e = .returned (txt y) ∧ Below W.heap.size W w')
    (H4 : ∀ W, Tab W → Calls Tryz.prog 17 #[txt x, txt y] W fun e w' => e = .returned (.tuple #[txt q, txt r, .int .i64 0]) ∧ Below W.heap.size W w')
    (H5 : ∀ W, Tab W → Calls Tryz.prog 15 #[txt q, txt y] W fun e w' => e = .returned (.tuple #[txt p, .int .i64 0]) ∧ Below W.heap.size W w')
    (H6 : ∀ W, Tab W → Calls Tryz.prog 14 #[txt p, txt r] W fun e w' => e = .returned (.tuple #[txt x, .int .i64 0]) ∧ Below W.heap.size W w')
    (H7 : ∀ W, Tab W → Calls Tryz.prog 15 #[txt y, .string { data := #[49] }] W fun e w' => e = .returned (.tuple #[txt y, .int .i64 0]) ∧ Below W.heap.size W w')
    (H8 : ∀ W, Tab W → Calls Tryz.prog 18 #[txt y, .string { data := #[48] }] W fun e w' => e = .returned (.int .i64 (-1)) ∧ Below W.heap.size W w')
    (H9 : ∀ W, Tab W → Calls Tryz.prog 16 #[.string { data := #[48] }, txt y] W fun e w' => e = .returned (.tuple #[txt sz, .int .i64 0]) ∧ Below W.heap.size W w')
    (H10 : ∀ W, Tab W → Calls Tryz.prog 15 #[txt x, txt y] W fun e w' => e = .returned (.tuple #[txt pr, .int .i64 0]) ∧ Below W.heap.size W w')
    (H11 : ∀ W, Tab W → Calls Tryz.prog 17 #[txt pr, txt y] W fun e w' => e = .returned (.tuple #[txt x, .string { data := #[48] }, .int .i64 0]) ∧ Below W.heap.size W w')
    (H12 : ∀ W, Tab W → Calls Tryz.prog 18 #[txt r, .string { data := #[48] }] W fun e w' => e = .returned (.int .i64 c) ∧ Below W.heap.size W w')
    (H13 : ∀ W, Tab W → Calls Tryz.prog 18 #[txt r, txt sz] W fun e w' => e = .returned (.int .i64 (-1)) ∧ Below W.heap.size W w')
    (H14 : ∀ W, Tab W → Calls Tryz.prog 19 #[txt r] W fun e w' => e = .returned (.bool true) ∧ Below W.heap.size W w') :
    Calls Tryz.prog 4 #[.string a, .string b] w fun e w' => e = .returned (.bool true) ∧ Below w.heap.size w w' := by
  have HT := Lib.hid ht
  have hB := Lib.hid (Below.refl w.heap.size w)
  clear ht
  have G1 := fun W (hW : Tab W) => Lib.hid (H1 W hW)
  have G2 := fun W (hW : Tab W) => Lib.hid (H2 W hW)
  have G3 := fun W (hW : Tab W) => Lib.hid (H3 W hW)
  have G4 := fun W (hW : Tab W) => Lib.hid (H4 W hW)
  have G5 := fun W (hW : Tab W) => Lib.hid (H5 W hW)
  have G6 := fun W (hW : Tab W) => Lib.hid (H6 W hW)
  have G7 := fun W (hW : Tab W) => Lib.hid (H7 W hW)
  have G8 := fun W (hW : Tab W) => Lib.hid (H8 W hW)
  have G9 := fun W (hW : Tab W) => Lib.hid (H9 W hW)
  have G10 := fun W (hW : Tab W) => Lib.hid (H10 W hW)
  have G11 := fun W (hW : Tab W) => Lib.hid (H11 W hW)
  have G12 := fun W (hW : Tab W) => Lib.hid (H12 W hW)
  have G13 := fun W (hW : Tab W) => Lib.hid (H13 W hW)
  have G14 := fun W (hW : Tab W) => Lib.hid (H14 W hW)
  clear H1 H2 H3 H4 H5 H6 H7 H8 H9 H10 H11 H12 H13 H14
  go_enter Tryz.func4, Tryz.ntmps4
  go_wp2_with fail
  refine (G1 _ HT.out).out.mono ?_
  rintro e w1 ⟨rfl, hb⟩
  replace HT := Lib.hid (HT.out.later hb)
  replace hB := Lib.hid (hB.out.trans (hb.mono hB.out.size))
  clear hb G1
  go_wp2_with fail
  refine (G2 _ HT.out).out.mono ?_
  rintro e w2 ⟨rfl, hb⟩
  replace HT := Lib.hid (HT.out.later hb)
  replace hB := Lib.hid (hB.out.trans (hb.mono hB.out.size))
  clear hb G2
  go_wp2_with fail
  refine (G3 _ HT.out).out.mono ?_
  rintro e w3 ⟨rfl, hb⟩
  replace HT := Lib.hid (HT.out.later hb)
  replace hB := Lib.hid (hB.out.trans (hb.mono hB.out.size))
  clear hb G3
  go_wp2_with fail
  refine (G4 _ HT.out).out.mono ?_
  rintro e w4 ⟨rfl, hb⟩
  replace HT := Lib.hid (HT.out.later hb)
  replace hB := Lib.hid (hB.out.trans (hb.mono hB.out.size))
  clear hb G4
  go_wp2_with fail
  refine (G5 _ HT.out).out.mono ?_
  rintro e w5 ⟨rfl, hb⟩
  replace HT := Lib.hid (HT.out.later hb)
  replace hB := Lib.hid (hB.out.trans (hb.mono hB.out.size))
  clear hb G5
  go_wp2_with fail
  refine (G6 _ HT.out).out.mono ?_
  rintro e w6 ⟨rfl, hb⟩
  replace HT := Lib.hid (HT.out.later hb)
  replace hB := Lib.hid (hB.out.trans (hb.mono hB.out.size))
  clear hb G6
  go_wp2_with fail
  refine (G7 _ HT.out).out.mono ?_
  rintro e w7 ⟨rfl, hb⟩
  replace HT := Lib.hid (HT.out.later hb)
  replace hB := Lib.hid (hB.out.trans (hb.mono hB.out.size))
  clear hb G7
  go_wp2_with fail
  refine (G8 _ HT.out).out.mono ?_
  rintro e w8 ⟨rfl, hb⟩
  replace HT := Lib.hid (HT.out.later hb)
  replace hB := Lib.hid (hB.out.trans (hb.mono hB.out.size))
  clear hb G8
  go_wp2_with fail
  refine (G9 _ HT.out).out.mono ?_
  rintro e w9 ⟨rfl, hb⟩
  replace HT := Lib.hid (HT.out.later hb)
  replace hB := Lib.hid (hB.out.trans (hb.mono hB.out.size))
  clear hb G9
  go_wp2_with fail
  refine (G10 _ HT.out).out.mono ?_
  rintro e w10 ⟨rfl, hb⟩
  replace HT := Lib.hid (HT.out.later hb)
  replace hB := Lib.hid (hB.out.trans (hb.mono hB.out.size))
  clear hb G10
  go_wp2_with fail
  refine (G11 _ HT.out).out.mono ?_
  rintro e w11 ⟨rfl, hb⟩
  replace HT := Lib.hid (HT.out.later hb)
  replace hB := Lib.hid (hB.out.trans (hb.mono hB.out.size))
  clear hb G11
  go_wp2_with fail
  refine (G12 _ HT.out).out.mono ?_
  rintro e w12 ⟨rfl, hb⟩
  replace HT := Lib.hid (HT.out.later hb)
  replace hB := Lib.hid (hB.out.trans (hb.mono hB.out.size))
  clear hb G12
  go_wp2_with fail
  refine (G13 _ HT.out).out.mono ?_
  rintro e w13 ⟨rfl, hb⟩
  replace HT := Lib.hid (HT.out.later hb)
  replace hB := Lib.hid (hB.out.trans (hb.mono hB.out.size))
  clear hb G13
  go_wp2_with fail
  refine (G14 _ HT.out).out.mono ?_
  rintro e w14 ⟨rfl, hb⟩
  replace HT := Lib.hid (HT.out.later hb)
  replace hB := Lib.hid (hB.out.trans (hb.mono hB.out.size))
  clear hb G14
  go_wp2
  go_ret
  exact ⟨rfl, hB.out⟩
end Go.Proofs.YtabodoellnmofaaGreatDoor
namespace Go.Proofs.YtabodoellnmofaaGreatDoor
open Go.RowKit Go.Shelf

theorem divided_any (a b : ByteArray) (w : World) (ht : Tab w) :
    Calls Tryz.prog 4 #[.string a, .string b] w fun e w' => e = .returned (.bool true) ∧ Below w.heap.size w w' := by
  have hX := madeZ_lt a.data.toList 90
  have hY := madeZ_lt b.data.toList 60
  obtain ⟨X, eX⟩ : ∃ X, X = madeZ a.data.toList 90 := ⟨_, rfl⟩
  obtain ⟨Y, eY⟩ : ∃ Y, Y = madeZ b.data.toList 60 := ⟨_, rfl⟩
  rw [← eX] at hX
  rw [← eY] at hY
  have bX := Nat.lt_of_lt_of_le hX (show (10 : Nat) ^ 90 ≤ 10 ^ 200 by decide +kernel)
  have bY := Nat.lt_of_lt_of_le hY (show (10 : Nat) ^ 60 ≤ 10 ^ 200 by decide +kernel)
  have hs := fun W hW => sane_any W hW
  have m1 := made_is a 90 (by omega) (Lib.itoa X) (by rw [eX])
  have m2 := made_is b 60 (by omega) (Lib.itoa Y) (by rw [eY])
  by_cases h0 : Y = 0
  · rw [h0, zero_txt] at m2
    exact divided_zero a b _ w ht hs m1 m2 (fun W _ => div_zero X W bX)
  · have hmod := Int.emod_nonneg X h0
    have hlt : X % Y < (Y.natAbs : Int) := Int.emod_lt X h0
    have hdm := Int.mul_ediv_add_emod X Y
    have bR : (X % Y).natAbs < 10 ^ 200 := by omega
    have hq : (X / Y).natAbs ≤ X.natAbs := Int.natAbs_ediv_le_natAbs X Y
    have bQ : (X / Y).natAbs < 10 ^ 200 := by omega
    have hpe : X / Y * Y = X - X % Y := by rw [Int.mul_comm]; omega
    have bP : (X / Y * Y).natAbs < 10 ^ 200 := by
      rw [hpe]
      exact Nat.lt_of_lt_of_le (abs_sub hX (show (X % Y).natAbs < 10 ^ 60 by omega) (Nat.le_refl _)) (by decide +kernel)
    have bXY : (X * Y).natAbs < 10 ^ 200 := Nat.lt_of_lt_of_le (abs_mul hX hY (Nat.le_refl _)) (by decide +kernel)
    have d1 := div_is X Y _ _ _ _ _ _ bX bY h0 rfl rfl rfl rfl rfl rfl
    have p1 := mul_is (X / Y) Y (X / Y * Y) _ _ _ bQ bY bP rfl rfl rfl rfl
    have p2 := add_is (X / Y * Y) (X % Y) X _ _ _ bP bR bX (by rw [Int.mul_comm]; exact hdm) rfl rfl rfl
    have p3 := mul_is Y 1 Y _ [49] _ bY abs1 bY (Int.mul_one _) rfl one_txt rfl
    have p4 := mul_is X Y (X * Y) _ _ _ bX bY bXY rfl rfl rfl rfl
    have d2 := div_is (X * Y) Y X 0 _ _ _ [48] bXY bY h0 (Int.mul_ediv_cancel X h0) (Int.mul_emod_left X Y) rfl rfl rfl zero_txt
    have c0 := cmp_is (X % Y) 0 _ _ [48] bR abs0 rfl rfl zero_txt
    have v1 := valid_is (Lib.itoa (X % Y)) true (by have := itoa_length (X % Y) bR; omega) (Dec.vld_itoa _ bR)
    have hneb : (Lib.itoa Y == [48]) = false := by rw [← zero_txt]; exact itoa_neb h0
    rcases Int.lt_trichotomy Y 0 with h | h | h
    · have bN : (0 - Y).natAbs < 10 ^ 200 := by omega
      exact divided_neg a b _ _ _ _ _ _ _ (sgn (X % Y) 0) (sgn_ge hmod) hneb w ht hs m1 m2 d1 p1 p2 p3 (cmp_is Y 0 (-1) _ [48] bY abs0 (sgn_of_lt h) rfl zero_txt)
        (sub_is 0 Y (0 - Y) [48] _ _ abs0 bY bN rfl zero_txt rfl rfl) p4 d2 c0 (cmp_is (X % Y) (0 - Y) (-1) _ _ bR bN (sgn_of_lt (by omega)) rfl rfl) v1
    · exact absurd h h0
    · exact divided_pos a b _ _ _ _ _ _ (sgn (X % Y) 0) (sgn_ge hmod) hneb w ht hs m1 m2 d1 p1 p2 p3 (cmp_is Y 0 1 _ [48] bY abs0 (sgn_of_gt h) rfl zero_txt)
        p4 d2 c0 (cmp_is (X % Y) Y (-1) _ _ bR bY (sgn_of_lt (by omega)) rfl rfl) v1
end Go.Proofs.YtabodoellnmofaaGreatDoor
