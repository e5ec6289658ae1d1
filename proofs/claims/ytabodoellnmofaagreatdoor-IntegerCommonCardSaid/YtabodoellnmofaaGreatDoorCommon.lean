/- IntegerCommon: the walks, and that it answers true. -/
import Derived.Test.YtabodoellnmofaaGreatDoorMade
import Derived.Test.YtabodoellnmofaaGreatDoorSane
namespace Go.Proofs.YtabodoellnmofaaGreatDoor
open Go.RowKit Go.Shelf

set_option maxRecDepth 100000 in
set_option maxHeartbeats 4000000 in
theorem common_zero (a b c : ByteArray) (z : List UInt8) (w : World) (ht : Tab w)
    (H1 : ∀ W, Tab W → Calls Tryz.prog 12 #[] W fun e w' => e = .returned (.bool true) ∧ Below W.heap.size W w')
    (H2 : ∀ W, Tab W → Calls Tryz.prog 13 #[.string a, .int .i64 40] W fun e w' => e = .returned (.string { data := #[48] }) ∧ Below W.heap.size W w')
    (H3 : ∀ W, Tab W → Calls Tryz.prog 13 #[.string b, .int .i64 40] W fun e w' => e = .returned (.string { data := #[48] }) ∧ Below W.heap.size W w')
    (H4 : ∀ W, Tab W → Calls Tryz.prog 13 #[.string c, .int .i64 40] W fun e w' => e = .returned (txt z) ∧ Below W.heap.size W w')
    (H5 : ∀ W, Tab W → Calls Tryz.prog 20 #[.string { data := #[48] }, .string { data := #[48] }] W fun e w' => e = .returned (.tuple #[.string { data := #[48] }, .int .i64 0]) ∧ Below W.heap.size W w')
    (H6 : ∀ W, Tab W → Calls Tryz.prog 20 #[.string { data := #[48] }, .string { data := #[48] }] W fun e w' => e = .returned (.tuple #[.string { data := #[48] }, .int .i64 0]) ∧ Below W.heap.size W w')
    (H7 : ∀ W, Tab W → Calls Tryz.prog 18 #[.string { data := #[48] }, .string { data := #[48] }] W fun e w' => e = .returned (.int .i64 0) ∧ Below W.heap.size W w') :
    Calls Tryz.prog 5 #[.string a, .string b, .string c] w fun e w' => e = .returned (.bool true) ∧ Below w.heap.size w w' := by
  have HT := Lib.hid ht
  have hB := Lib.hid (Below.refl w.heap.size w)
  clear ht
  have G1 := fun W (hW : Tab W) => Lib.hid (H1 W hW)
  have G2 := fun W (hW : Tab W) => Lib.hid (H2 W hW)
  have G3 := fun W (hW : Tab W) => Lib.hid (H3 W hW)
  have G4 := fun W (hW : Tab W) => Lib.hid (H4 W hW)
  have G5 := fun W (hW : Tab W) => Lib.hid (H5 W hW)
  have G6 := fun W (hW : Tab W) => Lib.hid (H6 W hW)
  have G7 := fun W (hW : Tab W) => Lib.hid (H7 W hW)
  clear H1 H2 H3 H4 H5 H6 H7
  go_enter Tryz.func5, Tryz.ntmps5
  go_wp2_with fail
  refine (G1 _ HT.out).out.mono ?_
  rintro e w1 ⟨rfl, hb⟩
  replace HT := Lib.hid (HT.out.later hb)
  replace hB := Lib.hid (hB.out.trans (hb.mono hB.out.size))
  clear hb G1
  go_wp2_with fail
  refine (G2 _ HT.out).out.mono ?_
  rintro e w2 ⟨rfl, hb⟩
  replace HT := Lib.hid (HT.out.later hb)
  replace hB := Lib.hid (hB.out.trans (hb.mono hB.out.size))
  clear hb G2
  go_wp2_with fail
  refine (G3 _ HT.out).out.mono ?_
  rintro e w3 ⟨rfl, hb⟩
  replace HT := Lib.hid (HT.out.later hb)
  replace hB := Lib.hid (hB.out.trans (hb.mono hB.out.size))
  clear hb G3
  go_wp2_with fail
  refine (G4 _ HT.out).out.mono ?_
  rintro e w4 ⟨rfl, hb⟩
  replace HT := Lib.hid (HT.out.later hb)
  replace hB := Lib.hid (hB.out.trans (hb.mono hB.out.size))
  clear hb G4
  go_wp2_with fail
  refine (G5 _ HT.out).out.mono ?_
  rintro e w5 ⟨rfl, hb⟩
  replace HT := Lib.hid (HT.out.later hb)
  replace hB := Lib.hid (hB.out.trans (hb.mono hB.out.size))
  clear hb G5
  go_wp2_with fail
  refine (G6 _ HT.out).out.mono ?_
  rintro e w6 ⟨rfl, hb⟩
  replace HT := Lib.hid (HT.out.later hb)
  replace hB := Lib.hid (hB.out.trans (hb.mono hB.out.size))
  clear hb G6
  go_wp2_with fail
  refine (G7 _ HT.out).out.mono ?_
  rintro e w7 ⟨rfl, hb⟩
  replace HT := Lib.hid (HT.out.later hb)
  replace hB := Lib.hid (hB.out.trans (hb.mono hB.out.size))
  clear hb G7
  go_wp2
  go_ret
  exact ⟨rfl, hB.out⟩

set_option maxRecDepth 100000 in
set_option maxHeartbeats 8000000 in
theorem common_x (a b c : ByteArray) (x y z g p q xz yz al : List UInt8) (c0 c1 : Int) (hc0 : 0 ≤ c0) (hc1 : 0 ≤ c1) (hneb : (x == [48]) = false) (w : World) (ht : Tab w)
    (H1 : ∀ W, Tab W → Calls Tryz.prog 12 #[] W fun e w' => e = .returned (.bool true) ∧ Below W.heap.size W w')
    (H2 : ∀ W, Tab W → Calls Tryz.prog 13 #[.string a, .int .i64 40] W fun e w' => e = .returned (txt x) ∧ Below W.heap.size W w')
    (H3 : ∀ W, Tab W → Calls Tryz.prog 13 #[.string b, .int .i64 40] W fun e w' => e = .returned (txt y) ∧ Below W.heap.size W w')
    (H4 : ∀ W, Tab W → Calls Tryz.prog 13 #[.string c, .int .i64 40] W fun e w' => e = .returned (txt z) ∧ Below W.heap.size W w')
    (H5 : ∀ W, Tab W → Calls Tryz.prog 20 #[txt x, txt y] W fun e w' => e = .returned (.tuple #[txt g, .int .i64 0]) ∧ Below W.heap.size W w')
    (H6 : ∀ W, Tab W → Calls Tryz.prog 20 #[txt y, txt x] W fun e w' => e = .returned (.tuple #[txt g, .int .i64 0]) ∧ Below W.heap.size W w')
    (H7 : ∀ W, Tab W → Calls Tryz.prog 18 #[txt g, .string { data := #[48] }] W fun e w' => e = .returned (.int .i64 c0) ∧ Below W.heap.size W w')
    (H8 : ∀ W, Tab W → Calls Tryz.prog 17 #[txt x, txt g] W fun e w' => e = .returned (.tuple #[txt p, .string { data := #[48] }, .int .i64 0]) ∧ Below W.heap.size W w')
    (H9 : ∀ W, Tab W → Calls Tryz.prog 17 #[txt y, txt g] W fun e w' => e = .returned (.tuple #[txt q, .string { data := #[48] }, .int .i64 0]) ∧ Below W.heap.size W w')
    (H10 : ∀ W, Tab W → Calls Tryz.prog 20 #[txt p, txt q] W fun e w' => e = .returned (.tuple #[.string { data := #[49] }, .int .i64 0]) ∧ Below W.heap.size W w')
    (H11 : ∀ W, Tab W → Calls Tryz.prog 15 #[txt x, txt z] W fun e w' => e = .returned (.tuple #[txt xz, .int .i64 0]) ∧ Below W.heap.size W w')
    (H12 : ∀ W, Tab W → Calls Tryz.prog 15 #[txt y, txt z] W fun e w' => e = .returned (.tuple #[txt yz, .int .i64 0]) ∧ Below W.heap.size W w')
    (H13 : ∀ W, Tab W → Calls Tryz.prog 20 #[txt xz, txt yz] W fun e w' => e = .returned (.tuple #[txt al, .int .i64 0]) ∧ Below W.heap.size W w')
    (H14 : ∀ W, Tab W → Calls Tryz.prog 15 #[txt g, txt z] W fun e w' => e = .returned (.tuple #[txt al, .int .i64 0]) ∧ Below W.heap.size W w')
    (H15 : ∀ W, Tab W → Calls Tryz.prog 18 #[txt al, .string { data := #[48] }] W fun e w' => e = .returned (.int .i64 c1) ∧ Below W.heap.size W w') :
    Calls Tryz.prog 5 #[.string a, .string b, .string c] w fun e w' => e = .returned (.bool true) ∧ Below w.heap.size w w' := by
  have HT := Lib.hid ht
  have hB := Lib.hid (Below.refl w.heap.size w)
  clear ht
  have G1 := fun W (hW : Tab W) => Lib.hid (H1 W hW)
  have G2 := fun W (hW : Tab W) => Lib.hid (H2 W hW)
  have G3 := fun W (hW : Tab W) => Lib.hid (H3 W hW)
  have G4 := fun W (hW : Tab W) => Lib.hid (H4 W hW)
  have G5 := fun W (hW : Tab W) => Lib.hid (H5 W hW)
  have G6 := fun W (hW : Tab W) => Lib.hid (H6 W hW)
  have G7 := fun W (hW : Tab W) => Lib.hid (H7 W hW)
  have G8 := fun W (hW : Tab W) => Lib.hid (H8 W hW)
  have G9 := fun W (hW : Tab W) => Lib.hid (H9 W hW)
  have G10 := fun W (hW : Tab W) => Lib.hid (H10 W hW)
  have G11 := fun W (hW : Tab W) => Lib.hid (H11 W hW)
  have G12 := fun W (hW : Tab W) => Lib.hid (H12 W hW)
  have G13 := fun W (hW : Tab W) => Lib.hid (H13 W hW)
  have G14 := fun W (hW : Tab W) => Lib.hid (H14 W hW)
  have G15 := fun W (hW : Tab W) => Lib.hid (H15 W hW)
  clear H1 H2 H3 H4 H5 H6 H7 H8 H9 H10 H11 H12 H13 H14 H15
  go_enter Tryz.func5, Tryz.ntmps5
  go_wp2_with fail
  refine (G1 _ HT.out).out.mono ?_
  rintro e w1 ⟨rfl, hb⟩
  replace HT := Lib.hid (HT.out.later hb)
  replace hB := Lib.hid (hB.out.trans (hb.mono hB.out.size))
  clear hb G1
  go_wp2_with fail
  refine (G2 _ HT.out).out.mono ?_
  rintro e w2 ⟨rfl, hb⟩
  replace HT := Lib.hid (HT.out.later hb)
  replace hB := Lib.hid (hB.out.trans (hb.mono hB.out.size))
  clear hb G2
  go_wp2_with fail
  refine (G3 _ HT.out).out.mono ?_
  rintro e w3 ⟨rfl, hb⟩
  replace HT := Lib.hid (HT.out.later hb)
  replace hB := Lib.hid (hB.out.trans (hb.mono hB.out.size))
  clear hb G3
  go_wp2_with fail
  refine (G4 _ HT.out).out.mono ?_
  rintro e w4 ⟨rfl, hb⟩
  replace HT := Lib.hid (HT.out.later hb)
  replace hB := Lib.hid (hB.out.trans (hb.mono hB.out.size))
  clear hb G4
  go_wp2_with fail
  refine (G5 _ HT.out).out.mono ?_
  rintro e w5 ⟨rfl, hb⟩
  replace HT := Lib.hid (HT.out.later hb)
  replace hB := Lib.hid (hB.out.trans (hb.mono hB.out.size))
  clear hb G5
  go_wp2_with fail
  refine (G6 _ HT.out).out.mono ?_
  rintro e w6 ⟨rfl, hb⟩
  replace HT := Lib.hid (HT.out.later hb)
  replace hB := Lib.hid (hB.out.trans (hb.mono hB.out.size))
  clear hb G6
  go_wp2_with fail
  refine (G7 _ HT.out).out.mono ?_
  rintro e w7 ⟨rfl, hb⟩
  replace HT := Lib.hid (HT.out.later hb)
  replace hB := Lib.hid (hB.out.trans (hb.mono hB.out.size))
  clear hb G7
  go_wp2_with fail
  refine (G8 _ HT.out).out.mono ?_
  rintro e w8 ⟨rfl, hb⟩
  replace HT := Lib.hid (HT.out.later hb)
  replace hB := Lib.hid (hB.out.trans (hb.mono hB.out.size))
  clear hb G8
  go_wp2_with fail
  refine (G9 _ HT.out).out.mono ?_
  rintro e w9 ⟨rfl, hb⟩
  replace HT := Lib.hid (HT.out.later hb)
  replace hB := Lib.hid (hB.out.trans (hb.mono hB.out.size))
  clear hb G9
  go_wp2_with fail
  refine (G10 _ HT.out).out.mono ?_
  rintro e w10 ⟨rfl, hb⟩
  replace HT := Lib.hid (HT.out.later hb)
  replace hB := Lib.hid (hB.out.trans (hb.mono hB.out.size))
  clear hb G10
  go_wp2_with fail
  refine (G11 _ HT.out).out.mono ?_
  rintro e w11 ⟨rfl, hb⟩
  replace HT := Lib.hid (HT.out.later hb)
  replace hB := Lib.hid (hB.out.trans (hb.mono hB.out.size))
  clear hb G11
  go_wp2_with fail
  refine (G12 _ HT.out).out.mono ?_
  rintro e w12 ⟨rfl, hb⟩
  replace HT := Lib.hid (HT.out.later hb)
  replace hB := Lib.hid (hB.out.trans (hb.mono hB.out.size))
  clear hb G12
  go_wp2_with fail
  refine (G13 _ HT.out).out.mono ?_
  rintro e w13 ⟨rfl, hb⟩
  replace HT := Lib.hid (HT.out.later hb)
  replace hB := Lib.hid (hB.out.trans (hb.mono hB.out.size))
  clear hb G13
  go_wp2_with fail
  refine (G14 _ HT.out).out.mono ?_
  rintro e w14 ⟨rfl, hb⟩
  replace HT := Lib.hid (HT.out.later hb)
  replace hB := Lib.hid (hB.out.trans (hb.mono hB.out.size))
  clear hb G14
  go_wp2_with fail
  refine (G15 _ HT.out).out.mono ?_
  rintro e w15 ⟨rfl, hb⟩
  replace HT := Lib.hid (HT.out.later hb)
  replace hB := Lib.hid (hB.out.trans (hb.mono hB.out.size))
  clear hb G15
  go_wp2
  go_ret
  exact ⟨rfl, hB.out⟩

set_option maxRecDepth 100000 in
set_option maxHeartbeats 8000000 in
theorem common_xn (a b c : ByteArray) (x y z g p q xz yz al gz : List UInt8) (c0 : Int) (hc0 : 0 ≤ c0) (hneb : (x == [48]) = false) (w : World) (ht : Tab w)
    (H1 : ∀ W, Tab W → Calls Tryz.prog 12 #[] W fun e w' => e = .returned (.bool true) ∧ Below W.heap.size W w')
    (H2 : ∀ W, Tab W → Calls Tryz.prog 13 #[.string a, .int .i64 40] W fun e w' => e = .returned (txt x) ∧ Below W.heap.size W w')
    (H3 : ∀ W, Tab W → Calls Tryz.prog 13 #[.string b, .int .i64 40] W fun e w' => e = .returned (txt y) ∧ Below W.heap.size W w')
    (H4 : ∀ W, Tab W → Calls Tryz.prog 13 #[.string c, .int .i64 40] W fun e w' => e = .returned (txt z) ∧ Below W.heap.size W w')
    (H5 : ∀ W, Tab W → Calls Tryz.prog 20 #[txt x, txt y] W fun e w' => e = .returned (.tuple #[txt g, .int .i64 0]) ∧ Below W.heap.size W w')
    (H6 : ∀ W, Tab W → Calls Tryz.prog 20 #[txt y, txt x] W fun e w' => e = .returned (.tuple #[txt g, .int .i64 0]) ∧ Below W.heap.size W w')
    (H7 : ∀ W, Tab W → Calls Tryz.prog 18 #[txt g, .string { data := #[48] }] W fun e w' => e = .returned (.int .i64 c0) ∧ Below W.heap.size W w')
    (H8 : ∀ W, Tab W → Calls Tryz.prog 17 #[txt x, txt g] W fun e w' => e = .returned (.tuple #[txt p, .string { data := #[48] }, .int .i64 0]) ∧ Below W.heap.size W w')
    (H9 : ∀ W, Tab W → Calls Tryz.prog 17 #[txt y, txt g] W fun e w' => e = .returned (.tuple #[txt q, .string { data := #[48] }, .int .i64 0]) ∧ Below W.heap.size W w')
    (H10 : ∀ W, Tab W → Calls Tryz.prog 20 #[txt p, txt q] W fun e w' => e = .returned (.tuple #[.string { data := #[49] }, .int .i64 0]) ∧ Below W.heap.size W w')
    (H11 : ∀ W, Tab W → Calls Tryz.prog 15 #[txt x, txt z] W fun e w' => e = .returned (.tuple #[txt xz, .int .i64 0]) ∧ Below W.heap.size W w')
    (H12 : ∀ W, Tab W → Calls Tryz.prog 15 #[txt y, txt z] W fun e w' => e = .returned (.tuple #[txt yz, .int .i64 0]) ∧ Below W.heap.size W w')
    (H13 : ∀ W, Tab W → Calls Tryz.prog 20 #[txt xz, txt yz] W fun e w' => e = .returned (.tuple #[txt al, .int .i64 0]) ∧ Below W.heap.size W w')
    (H14 : ∀ W, Tab W → Calls Tryz.prog 15 #[txt g, txt z] W fun e w' => e = .returned (.tuple #[txt gz, .int .i64 0]) ∧ Below W.heap.size W w')
    (H15 : ∀ W, Tab W → Calls Tryz.prog 18 #[txt gz, .string { data := #[48] }] W fun e w' => e = .returned (.int .i64 (-1)) ∧ Below W.heap.size W w')
    (H16 : ∀ W, Tab W → Calls Tryz.prog 16 #[.string { data := #[48] }, txt gz] W fun e w' => e = .returned (.tuple #[txt al, .int .i64 0]) ∧ Below W.heap.size W w') :
    Calls Tryz.prog 5 #[.string a, .string b, .string c] w fun e w' => e = .returned (.bool true) ∧ Below w.heap.size w w' := by
  have HT := Lib.hid ht
  have hB := Lib.hid (Below.refl w.heap.size w)
  clear ht
  have G1 := fun W (hW : Tab W) => Lib.hid (H1 W hW)
  have G2 := fun W (hW : Tab W) => Lib.hid (H2 W hW)
  have G3 := fun W (hW : Tab W) => Lib.hid (H3 W hW)
  have G4 := fun W (hW : Tab W) => Lib.hid (H4 W hW)
  have G5 := fun W (hW : Tab W) => Lib.hid (H5 W hW)
  have G6 := fun W (hW : Tab W) => Lib.hid (H6 W hW)
  have G7 := fun W (hW : Tab W) => Lib.hid (H7 W hW)
  have G8 := fun W (hW : Tab W) => Lib.hid (H8 W hW)
  have G9 := fun W (hW : Tab W) => Lib.hid (H9 W hW)
  have G10 := fun W (hW : Tab W) => Lib.hid (H10 W hW)
  have G11 := fun W (hW : Tab W) => Lib.hid (H11 W hW)
  have G12 := fun W (hW : Tab W) => Lib.hid (H12 W hW)
  have G13 := fun W (hW : Tab W) => Lib.hid (H13 W hW)
  have G14 := fun W (hW : Tab W) => Lib.hid (H14 W hW)
  have G15 := fun W (hW : Tab W) => Lib.hid (H15 W hW)
  have G16 := fun W (hW : Tab W) => Lib.hid (H16 W hW)
  clear H1 H2 H3 H4 H5 H6 H7 H8 H9 H10 H11 H12 H13 H14 H15 H16
  go_enter Tryz.func5, Tryz.ntmps5
  go_wp2_with fail
  refine (G1 _ HT.out).out.mono ?_
  rintro e w1 ⟨rfl, hb⟩
  replace HT := Lib.hid (HT.out.later hb)
  replace hB := Lib.hid (hB.out.trans (hb.mono hB.out.size))
  clear hb G1
  go_wp2_with fail
  refine (G2 _ HT.out).out.mono ?_
  rintro e w2 ⟨rfl, hb⟩
  replace HT := Lib.hid (HT.out.later hb)
  replace hB := Lib.hid (hB.out.trans (hb.mono hB.out.size))
  clear hb G2
  go_wp2_with fail
  refine (G3 _ HT.out).out.mono ?_
  rintro e w3 ⟨rfl, hb⟩
  replace HT := Lib.hid (HT.out.later hb)
  replace hB := Lib.hid (hB.out.trans (hb.mono hB.out.size))
  clear hb G3
  go_wp2_with fail
  refine (G4 _ HT.out).out.mono ?_
  rintro e w4 ⟨rfl, hb⟩
  replace HT := Lib.hid (HT.out.later hb)
  replace hB := Lib.hid (hB.out.trans (hb.mono hB.out.size))
  clear hb G4
  go_wp2_with fail
  refine (G5 _ HT.out).out.mono ?_
  rintro e w5 ⟨rfl, hb⟩
  replace HT := Lib.hid (HT.out.later hb)
  replace hB := Lib.hid (hB.out.trans (hb.mono hB.out.size))
  clear hb G5
  go_wp2_with fail
  refine (G6 _ HT.out).out.mono ?_
  rintro e w6 ⟨rfl, hb⟩
  replace HT := Lib.hid (HT.out.later hb)
  replace hB := Lib.hid (hB.out.trans (hb.mono hB.out.size))
  clear hb G6
  go_wp2_with fail
  refine (G7 _ HT.out).out.mono ?_
  rintro e w7 ⟨rfl, hb⟩
  replace HT := Lib.hid (HT.out.later hb)
  replace hB := Lib.hid (hB.out.trans (hb.mono hB.out.size))
  clear hb G7
  go_wp2_with fail
  refine (G8 _ HT.out).out.mono ?_
  rintro e w8 ⟨rfl, hb⟩
  replace HT := Lib.hid (HT.out.later hb)
  replace hB := Lib.hid (hB.out.trans (hb.mono hB.out.size))
  clear hb G8
  go_wp2_with fail
  refine (G9 _ HT.out).out.mono ?_
  rintro e w9 ⟨rfl, hb⟩
  replace HT := Lib.hid (HT.out.later hb)
  replace hB := Lib.hid (hB.out.trans (hb.mono hB.out.size))
  clear hb G9
  go_wp2_with fail
  refine (G10 _ HT.out).out.mono ?_
  rintro e w10 ⟨rfl, hb⟩
  replace HT := Lib.hid (HT.out.later hb)
  replace hB := Lib.hid (hB.out.trans (hb.mono hB.out.size))
  clear hb G10
  go_wp2_with fail
  refine (G11 _ HT.out).out.mono ?_
  rintro e w11 ⟨rfl, hb⟩
  replace HT := Lib.hid (HT.out.later hb)
  replace hB := Lib.hid (hB.out.trans (hb.mono hB.out.size))
  clear hb G11
  go_wp2_with fail
  refine (G12 _ HT.out).out.mono ?_
  rintro e w12 ⟨rfl, hb⟩
  replace HT := Lib.hid (HT.out.later hb)
  replace hB := Lib.hid (hB.out.trans (hb.mono hB.out.size))
  clear hb G12
  go_wp2_with fail
  refine (G13 _ HT.out).out.mono ?_
  rintro e w13 ⟨rfl, hb⟩
  replace HT := Lib.hid (HT.out.later hb)
  replace hB := Lib.hid (hB.out.trans (hb.mono hB.out.size))
  clear hb G13
  go_wp2_with fail
  refine (G14 _ HT.out).out.mono ?_
  rintro e w14 ⟨rfl, hb⟩
  replace HT := Lib.hid (HT.out.later hb)
  replace hB := Lib.hid (hB.out.trans (hb.mono hB.out.size))
  clear hb G14
  go_wp2_with fail
  refine (G15 _ HT.out).out.mono ?_
  rintro e w15 ⟨rfl, hb⟩
  replace HT := Lib.hid (HT.out.later hb)
  replace hB := Lib.hid (hB.out.trans (hb.mono hB.out.size))
  clear hb G15
  go_wp2_with fail
  refine (G16 _ HT.out).out.mono ?_
  rintro e w16 ⟨rfl, hb⟩
  replace HT := Lib.hid (HT.out.later hb)
  replace hB := Lib.hid (hB.out.trans (hb.mono hB.out.size))
  clear hb G16
  go_wp2
  go_ret
  exact ⟨rfl, hB.out⟩

set_option maxRecDepth 100000 in
set_option maxHeartbeats 8000000 in
theorem common_y (a b c : ByteArray) (y z g p q xz yz al : List UInt8) (c0 c1 : Int) (hc0 : 0 ≤ c0) (hc1 : 0 ≤ c1) (hneb : (y == [48]) = false) (w : World) (ht : Tab w)
    (H1 : ∀ W, Tab W → Calls Tryz.prog 12 #[] W fun e w' => e = .returned (.bool true) ∧ Below W.heap.size W w')
    (H2 : ∀ W, Tab W → Calls Tryz.prog 13 #[.string a, .int .i64 40] W fun e w' => e = .returned (.string { data := #[48] }) ∧ Below W.heap.size W w')
    (H3 : ∀ W, Tab W → Calls Tryz.prog 13 #[.string b, .int .i64 40] W fun e w' => e = .returned (txt y) ∧ Below W.heap.size W w')
    (H4 : ∀ W, Tab W → Calls Tryz.prog 13 #[.string c, .int .i64 40] W fun e w' => e = .returned (txt z) ∧ Below W.heap.size W w')
    (H5 : ∀ W, Tab W → Calls Tryz.prog 20 #[.string { data := #[48] }, txt y] W fun e w' => e = .returned (.tuple #[txt g, .int .i64 0]) ∧ Below W.heap.size W w')
    (H6 : ∀ W, Tab W → Calls Tryz.prog 20 #[txt y, .string { data := #[48] }] W fun e w' => e = .returned (.tuple #[txt g, .int .i64 0]) ∧ Below W.heap.size W w')
    (H7 : ∀ W, Tab W → Calls Tryz.prog 18 #[txt g, .string { data := #[48] }] W fun e w' => e = .returned (.int .i64 c0) ∧ Below W.heap.size W w')
    (H8 : ∀ W, Tab W → Calls Tryz.prog 17 #[.string { data := #[48] }, txt g] W fun e w' => e = .returned (.tuple #[txt p, .string { data := #[48] }, .int .i64 0]) ∧ Below W.heap.size W w')
    (H9 : ∀ W, Tab W → Calls Tryz.prog 17 #[txt y, txt g] W fun e w' => e = .returned (.tuple #[txt q, .string { data := #[48] }, .int .i64 0]) ∧ Below W.heap.size W w')
    (H10 : ∀ W, Tab W → Calls Tryz.prog 20 #[txt p, txt q] W fun e w' => e = .returned (.tuple #[.string { data := #[49] }, .int .i64 0]) ∧ Below W.heap.size W w')
    (H11 : ∀ W, Tab W → Calls Tryz.prog 15 #[.string { data := #[48] }, txt z] W fun e w' => e = .returned (.tuple #[txt xz, .int .i64 0]) ∧ Below W.heap.size W w')
    (H12 : ∀ W, Tab W → Calls Tryz.prog 15 #[txt y, txt z] W fun e w' => e = .returned (.tuple #[txt yz, .int .i64 0]) ∧ Below W.heap.size W w')
    (H13 : ∀ W, Tab W → Calls Tryz.prog 20 #[txt xz, txt yz] W fun e w' => e = .returned (.tuple #[txt al, .int .i64 0]) ∧ Below W.heap.size W w')
    (H14 : ∀ W, Tab W → Calls Tryz.prog 15 #[txt g, txt z] W fun e w' => e = .returned (.tuple #[txt al, .int .i64 0]) ∧ Below W.heap.size W w')
    (H15 : ∀ W, Tab W → Calls Tryz.prog 18 #[txt al, .string { data := #[48] }] W fun e w' => e = .returned (.int .i64 c1) ∧ Below W.heap.size W w') :
    Calls Tryz.prog 5 #[.string a, .string b, .string c] w fun e w' => e = .returned (.bool true) ∧ Below w.heap.size w w' := by
  have HT := Lib.hid ht
  have hB := Lib.hid (Below.refl w.heap.size w)
  clear ht
  have G1 := fun W (hW : Tab W) => Lib.hid (H1 W hW)
  have G2 := fun W (hW : Tab W) => Lib.hid (H2 W hW)
  have G3 := fun W (hW : Tab W) => Lib.hid (H3 W hW)
  have G4 := fun W (hW : Tab W) => Lib.hid (H4 W hW)
  have G5 := fun W (hW : Tab W) => Lib.hid (H5 W hW)
  have G6 := fun W (hW : Tab W) => Lib.hid (H6 W hW)
  have G7 := fun W (hW : Tab W) => Lib.hid (H7 W hW)
  have G8 := fun W (hW : Tab W) => Lib.hid (H8 W hW)
  have G9 := fun W (hW : Tab W) => Lib.hid (H9 W hW)
  have G10 := fun W (hW : Tab W) => Lib.hid (H10 W hW)
  have G11 := fun W (hW : Tab W) => Lib.hid (H11 W hW)
  have G12 := fun W (hW : Tab W) => Lib.hid (H12 W hW)
  have G13 := fun W (hW : Tab W) => Lib.hid (H13 W hW)
  have G14 := fun W (hW : Tab W) => Lib.hid (H14 W hW)
  have G15 := fun W (hW : Tab W) => Lib.hid (H15 W hW)
  clear H1 H2 H3 H4 H5 H6 H7 H8 H9 H10 H11 H12 H13 H14 H15
  go_enter Tryz.func5, Tryz.ntmps5
  go_wp2_with fail
  refine (G1 _ HT.out).out.mono ?_
  rintro e w1 ⟨rfl, hb⟩
  replace HT := Lib.hid (HT.out.later hb)
  replace hB := Lib.hid (hB.out.trans (hb.mono hB.out.size))
  clear hb G1
  go_wp2_with fail
  refine (G2 _ HT.out).out.mono ?_
  rintro e w2 ⟨rfl, hb⟩
  replace HT := Lib.hid (HT.out.later hb)
  replace hB := Lib.hid (hB.out.trans (hb.mono hB.out.size))
  clear hb G2
  go_wp2_with fail
  refine (G3 _ HT.out).out.mono ?_
  rintro e w3 ⟨rfl, hb⟩
  replace HT := Lib.hid (HT.out.later hb)
  replace hB := Lib.hid (hB.out.trans (hb.mono hB.out.size))
  clear hb G3
  go_wp2_with fail
  refine (G4 _ HT.out).out.mono ?_
  rintro e w4 ⟨rfl, hb⟩
  replace HT := Lib.hid (HT.out.later hb)
  replace hB := Lib.hid (hB.out.trans (hb.mono hB.out.size))
  clear hb G4
  go_wp2_with fail
  refine (G5 _ HT.out).out.mono ?_
  rintro e w5 ⟨rfl, hb⟩
  replace HT := Lib.hid (HT.out.later hb)
  replace hB := Lib.hid (hB.out.trans (hb.mono hB.out.size))
  clear hb G5
  go_wp2_with fail
  refine (G6 _ HT.out).out.mono ?_
  rintro e w6 ⟨rfl, hb⟩
  replace HT := Lib.hid (HT.out.later hb)
  replace hB := Lib.hid (hB.out.trans (hb.mono hB.out.size))
  clear hb G6
  go_wp2_with fail
  refine (G7 _ HT.out).out.mono ?_
  rintro e w7 ⟨rfl, hb⟩
  replace HT := Lib.hid (HT.out.later hb)
  replace hB := Lib.hid (hB.out.trans (hb.mono hB.out.size))
  clear hb G7
  go_wp2_with fail
  refine (G8 _ HT.out).out.mono ?_
  rintro e w8 ⟨rfl, hb⟩
  replace HT := Lib.hid (HT.out.later hb)
  replace hB := Lib.hid (hB.out.trans (hb.mono hB.out.size))
  clear hb G8
  go_wp2_with fail
  refine (G9 _ HT.out).out.mono ?_
  rintro e w9 ⟨rfl, hb⟩
  replace HT := Lib.hid (HT.out.later hb)
  replace hB := Lib.hid (hB.out.trans (hb.mono hB.out.size))
  clear hb G9
  go_wp2_with fail
  refine (G10 _ HT.out).out.mono ?_
  rintro e w10 ⟨rfl, hb⟩
  replace HT := Lib.hid (HT.out.later hb)
  replace hB := Lib.hid (hB.out.trans (hb.mono hB.out.size))
  clear hb G10
  go_wp2_with fail
  refine (G11 _ HT.out).out.mono ?_
  rintro e w11 ⟨rfl, hb⟩
  replace HT := Lib.hid (HT.out.later hb)
  replace hB := Lib.hid (hB.out.trans (hb.mono hB.out.size))
  clear hb G11
  go_wp2_with fail
  refine (G12 _ HT.out).out.mono ?_
  rintro e w12 ⟨rfl, hb⟩
  replace HT := Lib.hid (HT.out.later hb)
  replace hB := Lib.hid (hB.out.trans (hb.mono hB.out.size))
  clear hb G12
  go_wp2_with fail
  refine (G13 _ HT.out).out.mono ?_
  rintro e w13 ⟨rfl, hb⟩
  replace HT := Lib.hid (HT.out.later hb)
  replace hB := Lib.hid (hB.out.trans (hb.mono hB.out.size))
  clear hb G13
  go_wp2_with fail
  refine (G14 _ HT.out).out.mono ?_
  rintro e w14 ⟨rfl, hb⟩
  replace HT := Lib.hid (HT.out.later hb)
  replace hB := Lib.hid (hB.out.trans (hb.mono hB.out.size))
  clear hb G14
  go_wp2_with fail
  refine (G15 _ HT.out).out.mono ?_
  rintro e w15 ⟨rfl, hb⟩
  replace HT := Lib.hid (HT.out.later hb)
  replace hB := Lib.hid (hB.out.trans (hb.mono hB.out.size))
  clear hb G15
  go_wp2
  go_ret
  exact ⟨rfl, hB.out⟩

set_option maxRecDepth 100000 in
set_option maxHeartbeats 8000000 in
theorem common_yn (a b c : ByteArray) (y z g p q xz yz al gz : List UInt8) (c0 : Int) (hc0 : 0 ≤ c0) (hneb : (y == [48]) = false) (w : World) (ht : Tab w)
    (H1 : ∀ W, Tab W → Calls Tryz.prog 12 #[] W fun e w' => e = .returned (.bool true) ∧ Below W.heap.size W w')
    (H2 : ∀ W, Tab W → Calls Tryz.prog 13 #[.string a, .int .i64 40] W fun e w' => e = .returned (.string { data := #[48] }) ∧ Below W.heap.size W w')
    (H3 : ∀ W, Tab W → Calls Tryz.prog 13 #[.string b, .int .i64 40] W fun e w' => e = .returned (txt y) ∧ Below W.heap.size W w')
    (H4 : ∀ W, Tab W → Calls Tryz.prog 13 #[.string c, .int .i64 40] W fun e w' => e = .returned (txt z) ∧ Below W.heap.size W w')
    (H5 : ∀ W, Tab W → Calls Tryz.prog 20 #[.string { data := #[48] }, txt y] W fun e w' => e = .returned (.tuple #[txt g, .int .i64 0]) ∧ Below W.heap.size W w')
    (H6 : ∀ W, Tab W → Calls Tryz.prog 20 #[txt y, .string { data := #[48] }] W fun e w' => e = .returned (.tuple #[txt g, .int .i64 0]) ∧ Below W.heap.size W w')
    (H7 : ∀ W, Tab W → Calls Tryz.prog 18 #[txt g, .string { data := #[48] }] W fun e w' => e = .returned (.int .i64 c0) ∧ Below W.heap.size W w')
    (H8 : ∀ W, Tab W → Calls Tryz.prog 17 #[.string { data := #[48] }, txt g] W fun e w' => e = .returned (.tuple #[txt p, .string { data := #[48] }, .int .i64 0]) ∧ Below W.heap.size W w')
    (H9 : ∀ W, Tab W → Calls Tryz.prog 17 #[txt y, txt g] W fun e w' => e = .returned (.tuple #[txt q, .string { data := #[48] }, .int .i64 0]) ∧ Below W.heap.size W w')
    (H10 : ∀ W, Tab W → Calls Tryz.prog 20 #[txt p, txt q] W fun e w' => e = .returned (.tuple #[.string { data := #[49] }, .int .i64 0]) ∧ Below W.heap.size W w')
    (H11 : ∀ W, Tab W → Calls Tryz.prog 15 #[.string { data := #[48] }, txt z] W fun e w' => e = .returned (.tuple #[txt xz, .int .i64 0]) ∧ Below W.heap.size W w')
    (H12 : ∀ W, Tab W → Calls Tryz.prog 15 #[txt y, txt z] W fun e w' => e = .returned (.tuple #[txt yz, .int .i64 0]) ∧ Below W.heap.size W w')
    (H13 : ∀ W, Tab W → Calls Tryz.prog 20 #[txt xz, txt yz] W fun e w' => e = .returned (.tuple #[txt al, .int .i64 0]) ∧ Below W.heap.size W w')
    (H14 : ∀ W, Tab W → Calls Tryz.prog 15 #[txt g, txt z] W fun e w' => e = .returned (.tuple #[txt gz, .int .i64 0]) ∧ Below W.heap.size W w')
    (H15 : ∀ W, Tab W → Calls Tryz.prog 18 #[txt gz, .string { data := #[48] }] W fun e w' => e = .returned (.int .i64 (-1)) ∧ Below W.heap.size W w')
    (H16 : ∀ W, Tab W → Calls Tryz.prog 16 #[.string { data := #[48] }, txt gz] W fun e w' => e = .returned (.tuple #[txt al, .int .i64 0]) ∧ Below W.heap.size W w') :
    Calls Tryz.prog 5 #[.string a, .string b, .string c] w fun e w' => e = .returned (.bool true) ∧ Below w.heap.size w w' := by
  have HT := Lib.hid ht
  have hB := Lib.hid (Below.refl w.heap.size w)
  clear ht
  have G1 := fun W (hW : Tab W) => Lib.hid (H1 W hW)
  have G2 := fun W (hW : Tab W) => Lib.hid (H2 W hW)
  have G3 := fun W (hW : Tab W) => Lib.hid (H3 W hW)
  have G4 := fun W (hW : Tab W) => Lib.hid (H4 W hW)
  have G5 := fun W (hW : Tab W) => Lib.hid (H5 W hW)
  have G6 := fun W (hW : Tab W) => Lib.hid (H6 W hW)
  have G7 := fun W (hW : Tab W) => Lib.hid (H7 W hW)
  have G8 := fun W (hW : Tab W) => Lib.hid (H8 W hW)
  have G9 := fun W (hW : Tab W) => Lib.hid (H9 W hW)
  have G10 := fun W (hW : Tab W) => Lib.hid (H10 W hW)
  have G11 := fun W (hW : Tab W) => Lib.hid (H11 W hW)
  have G12 := fun W (hW : Tab W) => Lib.hid (H12 W hW)
  have G13 := fun W (hW : Tab W) => Lib.hid (H13 W hW)
  have G14 := fun W (hW : Tab W) => Lib.hid (H14 W hW)
  have G15 := fun W (hW : Tab W) => Lib.hid (H15 W hW)
  have G16 := fun W (hW : Tab W) => Lib.hid (H16 W hW)
  clear H1 H2 H3 H4 H5 H6 H7 H8 H9 H10 H11 H12 H13 H14 H15 H16
  go_enter Tryz.func5, Tryz.ntmps5
  go_wp2_with fail
  refine (G1 _ HT.out).out.mono ?_
  rintro e w1 ⟨rfl, hb⟩
  replace HT := Lib.hid (HT.out.later hb)
  replace hB := Lib.hid (hB.out.trans (hb.mono hB.out.size))
  clear hb G1
  go_wp2_with fail
  refine (G2 _ HT.out).out.mono ?_
  rintro e w2 ⟨rfl, hb⟩
  replace HT := Lib.hid (HT.out.later hb)
  replace hB := Lib.hid (hB.out.trans (hb.mono hB.out.size))
  clear hb G2
  go_wp2_with fail
  refine (G3 _ HT.out).out.mono ?_
  rintro e w3 ⟨rfl, hb⟩
  replace HT := Lib.hid (HT.out.later hb)
  replace hB := Lib.hid (hB.out.trans (hb.mono hB.out.size))
  clear hb G3
  go_wp2_with fail
  refine (G4 _ HT.out).out.mono ?_
  rintro e w4 ⟨rfl, hb⟩
  replace HT := Lib.hid (HT.out.later hb)
  replace hB := Lib.hid (hB.out.trans (hb.mono hB.out.size))
  clear hb G4
  go_wp2_with fail
  refine (G5 _ HT.out).out.mono ?_
  rintro e w5 ⟨rfl, hb⟩
  replace HT := Lib.hid (HT.out.later hb)
  replace hB := Lib.hid (hB.out.trans (hb.mono hB.out.size))
  clear hb G5
  go_wp2_with fail
  refine (G6 _ HT.out).out.mono ?_
  rintro e w6 ⟨rfl, hb⟩
  replace HT := Lib.hid (HT.out.later hb)
  replace hB := Lib.hid (hB.out.trans (hb.mono hB.out.size))
  clear hb G6
  go_wp2_with fail
  refine (G7 _ HT.out).out.mono ?_
  rintro e w7 ⟨rfl, hb⟩
  replace HT := Lib.hid (HT.out.later hb)
  replace hB := Lib.hid (hB.out.trans (hb.mono hB.out.size))
  clear hb G7
  go_wp2_with fail
  refine (G8 _ HT.out).out.mono ?_
  rintro e w8 ⟨rfl, hb⟩
  replace HT := Lib.hid (HT.out.later hb)
  replace hB := Lib.hid (hB.out.trans (hb.mono hB.out.size))
  clear hb G8
  go_wp2_with fail
  refine (G9 _ HT.out).out.mono ?_
  rintro e w9 ⟨rfl, hb⟩
  replace HT := Lib.hid (HT.out.later hb)
  replace hB := Lib.hid (hB.out.trans (hb.mono hB.out.size))
  clear hb G9
  go_wp2_with fail
  refine (G10 _ HT.out).out.mono ?_
  rintro e w10 ⟨rfl, hb⟩
  replace HT := Lib.hid (HT.out.later hb)
  replace hB := Lib.hid (hB.out.trans (hb.mono hB.out.size))
  clear hb G10
  go_wp2_with fail
  refine (G11 _ HT.out).out.mono ?_
  rintro e w11 ⟨rfl, hb⟩
  replace HT := Lib.hid (HT.out.later hb)
  replace hB := Lib.hid (hB.out.trans (hb.mono hB.out.size))
  clear hb G11
  go_wp2_with fail
  refine (G12 _ HT.out).out.mono ?_
  rintro e w12 ⟨rfl, hb⟩
  replace HT := Lib.hid (HT.out.later hb)
  replace hB := Lib.hid (hB.out.trans (hb.mono hB.out.size))
  clear hb G12
  go_wp2_with fail
  refine (G13 _ HT.out).out.mono ?_
  rintro e w13 ⟨rfl, hb⟩
  replace HT := Lib.hid (HT.out.later hb)
  replace hB := Lib.hid (hB.out.trans (hb.mono hB.out.size))
  clear hb G13
  go_wp2_with fail
  refine (G14 _ HT.out).out.mono ?_
  rintro e w14 ⟨rfl, hb⟩
  replace HT := Lib.hid (HT.out.later hb)
  replace hB := Lib.hid (hB.out.trans (hb.mono hB.out.size))
  clear hb G14
  go_wp2_with fail
  refine (G15 _ HT.out).out.mono ?_
  rintro e w15 ⟨rfl, hb⟩
  replace HT := Lib.hid (HT.out.later hb)
  replace hB := Lib.hid (hB.out.trans (hb.mono hB.out.size))
  clear hb G15
  go_wp2_with fail
  refine (G16 _ HT.out).out.mono ?_
  rintro e w16 ⟨rfl, hb⟩
  replace HT := Lib.hid (HT.out.later hb)
  replace hB := Lib.hid (hB.out.trans (hb.mono hB.out.size))
  clear hb G16
  go_wp2
  go_ret
  exact ⟨rfl, hB.out⟩
end Go.Proofs.YtabodoellnmofaaGreatDoor
namespace Go.Proofs.YtabodoellnmofaaGreatDoor
open Go.RowKit Go.Shelf

theorem gcd_lt {x y : Int} {B : Nat} (hx : x.natAbs < B) (hy : y.natAbs < B) : Nat.gcd x.natAbs y.natAbs < B := by
  rcases Nat.eq_zero_or_pos x.natAbs with h | h
  · rw [h, Nat.gcd_zero_left]; exact hy
  · exact Nat.lt_of_le_of_lt (Nat.gcd_le_left _ h) hx

/-- What a greatest common divisor that is not 0 leaves. -/
structure Parted (X Y : Int) (g : Nat) (P Q : Int) : Prop where
  fst : X / (g : Int) = P
  frem : X % (g : Int) = 0
  snd : Y / (g : Int) = Q
  srem : Y % (g : Int) = 0
  one : Nat.gcd P.natAbs Q.natAbs = 1
theorem parted (X Y : Int) (h : 0 < Nat.gcd X.natAbs Y.natAbs) : Parted X Y (Nat.gcd X.natAbs Y.natAbs) (X / (Nat.gcd X.natAbs Y.natAbs : Nat)) (Y / (Nat.gcd X.natAbs Y.natAbs : Nat)) := by
  have d1 : ((Nat.gcd X.natAbs Y.natAbs : Nat) : Int) ∣ X := Int.ofNat_dvd_left.2 (Nat.gcd_dvd_left _ _)
  have d2 : ((Nat.gcd X.natAbs Y.natAbs : Nat) : Int) ∣ Y := Int.ofNat_dvd_left.2 (Nat.gcd_dvd_right _ _)
  refine ⟨rfl, Int.emod_eq_zero_of_dvd d1, rfl, Int.emod_eq_zero_of_dvd d2, ?_⟩
  have e1 : (X / ((Nat.gcd X.natAbs Y.natAbs : Nat) : Int)).natAbs = X.natAbs / Nat.gcd X.natAbs Y.natAbs := by
    rw [Int.natAbs_ediv_of_dvd d1]; rfl
  have e2 : (Y / ((Nat.gcd X.natAbs Y.natAbs : Nat) : Int)).natAbs = Y.natAbs / Nat.gcd X.natAbs Y.natAbs := by
    rw [Int.natAbs_ediv_of_dvd d2]; rfl
  rw [e1, e2]
  rw [Nat.gcd_div (Nat.gcd_dvd_left _ _) (Nat.gcd_dvd_right _ _), Nat.div_self h]

theorem common_any (a b c : ByteArray) (w : World) (ht : Tab w) :
    Calls Tryz.prog 5 #[.string a, .string b, .string c] w fun e w' => e = .returned (.bool true) ∧ Below w.heap.size w w' := by
  have hX := madeZ_lt a.data.toList 40
  have hY := madeZ_lt b.data.toList 40
  have hZ := madeZ_lt c.data.toList 40
  obtain ⟨X, eX⟩ : ∃ X, X = madeZ a.data.toList 40 := ⟨_, rfl⟩
  obtain ⟨Y, eY⟩ : ∃ Y, Y = madeZ b.data.toList 40 := ⟨_, rfl⟩
  obtain ⟨Z, eZ⟩ : ∃ Z, Z = madeZ c.data.toList 40 := ⟨_, rfl⟩
  rw [← eX] at hX
  rw [← eY] at hY
  rw [← eZ] at hZ
  have l40 : (10 : Nat) ^ 40 ≤ 10 ^ 200 := by decide +kernel
  have bX := Nat.lt_of_lt_of_le hX l40
  have bY := Nat.lt_of_lt_of_le hY l40
  have bZ := Nat.lt_of_lt_of_le hZ l40
  have hs := fun W hW => sane_any W hW
  have m1 := made_is a 40 (by omega) (Lib.itoa X) (by rw [eX])
  have m2 := made_is b 40 (by omega) (Lib.itoa Y) (by rw [eY])
  have m3 := made_is c 40 (by omega) (Lib.itoa Z) (by rw [eZ])
  by_cases hb : X = 0 ∧ Y = 0
  · rw [hb.1, zero_txt] at m1
    rw [hb.2, zero_txt] at m2
    have g0 := gcd_is 0 0 0 [48] [48] [48] abs0 abs0 (by decide +kernel) rfl zero_txt zero_txt zero_txt
    exact common_zero a b c _ w ht hs m1 m2 m3 g0 g0 (cmp_is 0 0 0 [48] [48] abs0 abs0 (sgn_self 0) zero_txt zero_txt)
  · have hgp : 0 < Nat.gcd X.natAbs Y.natAbs := by
      rcases Nat.eq_zero_or_pos (Nat.gcd X.natAbs Y.natAbs) with h | h
      · obtain ⟨h1, h2⟩ := Nat.gcd_eq_zero_iff.1 h
        exact absurd ⟨by omega, by omega⟩ hb
      · exact h
    have hP := parted X Y hgp
    have hgl := gcd_lt hX hY
    obtain ⟨g, eg⟩ : ∃ g, g = Nat.gcd X.natAbs Y.natAbs := ⟨_, rfl⟩
    rw [← eg] at hgp hP hgl
    obtain ⟨P, eP⟩ : ∃ P, P = X / (g : Int) := ⟨_, rfl⟩
    obtain ⟨Q, eQ⟩ : ∃ Q, Q = Y / (g : Int) := ⟨_, rfl⟩
    rw [← eP, ← eQ] at hP
    have bg : g < 10 ^ 200 := Nat.lt_of_lt_of_le hgl l40
    have bgi : ((g : Nat) : Int).natAbs < 10 ^ 200 := by simpa using bg
    have hP' : P.natAbs ≤ X.natAbs := by rw [eP]; exact Int.natAbs_ediv_le_natAbs _ _
    have hQ' : Q.natAbs ≤ Y.natAbs := by rw [eQ]; exact Int.natAbs_ediv_le_natAbs _ _
    have bP : P.natAbs < 10 ^ 200 := by omega
    have bQ : Q.natAbs < 10 ^ 200 := by omega
    have hxz := abs_mul hX hZ (Nat.le_refl _)
    have hyz := abs_mul hY hZ (Nat.le_refl _)
    have l80 : (10 : Nat) ^ 40 * 10 ^ 40 ≤ 10 ^ 200 := by decide +kernel
    have bxz := Nat.lt_of_lt_of_le hxz l80
    have byz := Nat.lt_of_lt_of_le hyz l80
    have hgi : ((g : Nat) : Int).natAbs < 10 ^ 40 := by simpa using hgl
    have bgz : ((g : Int) * Z).natAbs < 10 ^ 200 := Nat.lt_of_lt_of_le (abs_mul hgi hZ (Nat.le_refl _)) l80
    have hall : Nat.gcd (X * Z).natAbs (Y * Z).natAbs = g * Z.natAbs := by rw [Int.natAbs_mul, Int.natAbs_mul, Nat.gcd_mul_right, ← eg]
    have bal : g * Z.natAbs < 10 ^ 200 := by
      have := bgz
      rw [Int.natAbs_mul] at this
      simpa using this
    have g1 := gcd_is X Y g _ _ _ bX bY bg eg.symm rfl rfl rfl
    have g2 := gcd_is Y X g _ _ _ bY bX bg (by rw [Nat.gcd_comm, eg]) rfl rfl rfl
    have c0 := cmp_is (g : Int) 0 _ _ [48] bgi abs0 rfl rfl zero_txt
    have d1 := div_is X (g : Int) P 0 _ _ _ [48] bX bgi (by omega) hP.fst hP.frem rfl rfl rfl zero_txt
    have d2 := div_is Y (g : Int) Q 0 _ _ _ [48] bY bgi (by omega) hP.snd hP.srem rfl rfl rfl zero_txt
    have g3 := gcd_is P Q 1 _ _ [49] bP bQ (by decide +kernel) hP.one rfl rfl one_txt
    have p1 := mul_is X Z (X * Z) _ _ _ bX bZ bxz rfl rfl rfl rfl
    have p2 := mul_is Y Z (Y * Z) _ _ _ bY bZ byz rfl rfl rfl rfl
    have g4 := gcd_is (X * Z) (Y * Z) (g * Z.natAbs) _ _ _ bxz byz bal hall rfl rfl rfl
    by_cases hz : Z < 0
    · have hneg : (g : Int) * Z < 0 := Int.mul_neg_of_pos_of_neg (by omega) hz
      have e0 : 0 - (g : Int) * Z = ((g * Z.natAbs : Nat) : Int) := by
        rw [Int.natCast_mul, show (Z.natAbs : Int) = -Z by omega, Int.mul_neg]; omega
      have p3 := mul_is (g : Int) Z ((g : Int) * Z) _ _ _ bgi bZ bgz rfl rfl rfl rfl
      have s3 := sub_is 0 ((g : Int) * Z) ((g * Z.natAbs : Nat) : Int) [48] _ _ abs0 bgz (by rw [Int.natAbs_natCast]; exact bal) e0 zero_txt rfl rfl
      have c3 := cmp_is ((g : Int) * Z) 0 (-1) _ [48] bgz abs0 (sgn_of_lt hneg) rfl zero_txt
      by_cases hx : X = 0
      · subst hx
        rw [zero_txt] at m1 g1 g2 d1 p1
        exact common_yn a b c _ _ _ _ _ _ _ _ _ (sgn (g : Int) 0) (sgn_ge (by omega)) (by rw [← zero_txt]; exact itoa_neb (fun e => hb ⟨rfl, e⟩)) w ht hs m1 m2 m3 g1 g2 c0 d1 d2 g3 p1 p2 g4 p3 c3 s3
      · exact common_xn a b c _ _ _ _ _ _ _ _ _ _ (sgn (g : Int) 0) (sgn_ge (by omega)) (by rw [← zero_txt]; exact itoa_neb hx) w ht hs m1 m2 m3 g1 g2 c0 d1 d2 g3 p1 p2 g4 p3 c3 s3
    · have e0 : (g : Int) * Z = ((g * Z.natAbs : Nat) : Int) := by
        rw [Int.natCast_mul, show (Z.natAbs : Int) = Z by omega]
      have p3 := mul_is (g : Int) Z ((g * Z.natAbs : Nat) : Int) _ _ _ bgi bZ (by rw [Int.natAbs_natCast]; exact bal) e0 rfl rfl rfl
      have c3 := cmp_is ((g * Z.natAbs : Nat) : Int) 0 _ _ [48] (by rw [Int.natAbs_natCast]; exact bal) abs0 rfl rfl zero_txt
      by_cases hx : X = 0
      · subst hx
        rw [zero_txt] at m1 g1 g2 d1 p1
        exact common_y a b c _ _ _ _ _ _ _ _ (sgn (g : Int) 0) (sgn ((g * Z.natAbs : Nat) : Int) 0) (sgn_ge (by omega)) (sgn_ge (by omega)) (by rw [← zero_txt]; exact itoa_neb (fun e => hb ⟨rfl, e⟩)) w ht hs m1 m2 m3 g1 g2 c0 d1 d2 g3 p1 p2 g4 p3 c3
      · exact common_x a b c _ _ _ _ _ _ _ _ _ (sgn (g : Int) 0) (sgn ((g * Z.natAbs : Nat) : Int) 0) (sgn_ge (by omega)) (sgn_ge (by omega)) (by rw [← zero_txt]; exact itoa_neb hx) w ht hs m1 m2 m3 g1 g2 c0 d1 d2 g3 p1 p2 g4 p3 c3
end Go.Proofs.YtabodoellnmofaaGreatDoor
