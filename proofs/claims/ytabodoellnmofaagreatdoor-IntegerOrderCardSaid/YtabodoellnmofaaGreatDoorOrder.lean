/- IntegerOrder: the walks, and that it answers true. -/
import Derived.Test.YtabodoellnmofaaGreatDoorMade
import Derived.Test.YtabodoellnmofaaGreatDoorSane
namespace Go.Proofs.YtabodoellnmofaaGreatDoor
open Go.RowKit Go.Shelf

set_option maxRecDepth 100000 in
set_option maxHeartbeats 4000000 in
theorem order_gt (a b c : ByteArray) (x y z d xz yz : List UInt8) (hneb : (x == y) = false) (w : World) (ht : Tab w)
    (H1 : ∀ W, Tab W → Calls Tryz.prog 12 #[] W fun e w' => e = .returned (.bool true) ∧ Below W.heap.size W w')
    (H2 : ∀ W, Tab W → Calls Tryz.prog 13 #[.string a, .int .i64 60] W fun e w' => e = .returned (txt x) ∧ Below W.heap.size W w')
    (H3 : ∀ W, Tab W → Calls Tryz.prog 13 #[.string b, .int .i64 60] W fun e w' => e = .returned (txt y) ∧ Below W.heap.size W w')
    (H4 : ∀ W, Tab W → Calls Tryz.prog 13 #[.string c, .int .i64 60] W fun e w' => e = .returned (txt z) ∧ Below W.heap.size W w')
    (H5 : ∀ W, Tab W → Calls Tryz.prog 18 #[txt x, txt y] W fun e w' => e = .returned (.int .i64 1) ∧ Below W.heap.size W w')
    (H6 : ∀ W, Tab W → Calls Tryz.prog 16 #[txt x, txt y] W fun e w' => e = .returned (.tuple #[txt d, .int .i64 0]) ∧ Below W.heap.size W w')
    (H7 : ∀ W, Tab W → Calls Tryz.prog 14 #[txt x, txt z] W fun e w' => e = .returned (.tuple #[txt xz, .int .i64 0]) ∧ Below W.heap.size W w')
    (H8 : ∀ W, Tab W → Calls Tryz.prog 14 #[txt y, txt z] W fun e w' => e = .returned (.tuple #[txt yz, .int .i64 0]) ∧ Below W.heap.size W w')
    (H9 : ∀ W, Tab W → Calls Tryz.prog 18 #[txt y, txt x] W fun e w' => e = .returned (.int .i64 (-1)) ∧ Below W.heap.size W w')
    (H10 : ∀ W, Tab W → Calls Tryz.prog 18 #[txt d, .string { data := #[48] }] W fun e w' => e = .returned (.int .i64 1) ∧ Below W.heap.size W w')
    (H11 : ∀ W, Tab W → Calls Tryz.prog 18 #[txt xz, txt yz] W fun e w' => e = .returned (.int .i64 1) ∧ Below W.heap.size W w') :
    Calls Tryz.prog 7 #[.string a, .string b, .string c] w fun e w' => e = .returned (.bool true) ∧ Below w.heap.size w w' := by
  have HT := Lib.hid ht
  have hB := Lib.hid (Below.refl w.heap.size w)
  clear ht
  have G1 := fun W (hW : Tab W) => Lib.hid (H1 W hW)
  have G2 := fun W (hW : Tab W) => Lib.hid (H2 W hW)
  have G3 := fun W (hW : Tab W) => Lib.hid (H3 W hW)
  have G4 := fun W (hW : Tab W) => Lib.hid (H4 W hW)
  have G5 := fun W (hW : Tab W) => Lib.hid (H5 W hW)
  have G6 := fun W (hW : Tab W) => Lib.hid (H6 W hW)
  have G7 := fun W (hW : Tab W) => Lib.hid (H7 W hW)
  have G8 := fun W (hW : Tab W) => Lib.hid (H8 W hW)
  have G9 := fun W (hW : Tab W) => Lib.hid (H9 W hW)
  have G10 := fun W (hW : Tab W) => Lib.hid (H10 W hW)
  have G11 := fun W (hW : Tab W) => Lib.hid (H11 W hW)
  clear H1 H2 H3 H4 H5 H6 H7 H8 H9 H10 H11
  go_enter Tryz.func7, Tryz.ntmps7
  go_wp2_with fail
  refine (G1 _ HT.out).out.mono ?_
  rintro e w1 ⟨rfl, hb⟩
  replace HT := Lib.hid (HT.out.later hb)
  replace hB := Lib.hid (hB.out.trans (hb.mono hB.out.size))
  clear hb G1
  go_wp2_with fail
  refine (G2 _ HT.out).out.mono ?_
  rintro e w2 ⟨rfl, hb⟩
  replace HT := Lib.hid (HT.out.later hb)
  replace hB := Lib.hid (hB.out.trans (hb.mono hB.out.size))
  clear hb G2
  go_wp2_with fail
  refine (G3 _ HT.out).out.mono ?_
  rintro e w3 ⟨rfl, hb⟩
  replace HT := Lib.hid (HT.out.later hb)
  replace hB := Lib.hid (hB.out.trans (hb.mono hB.out.size))
  clear hb G3
  go_wp2_with fail
  refine (G4 _ HT.out).out.mono ?_
  rintro e w4 ⟨rfl, hb⟩
  replace HT := Lib.hid (HT.out.later hb)
  replace hB := Lib.hid (hB.out.trans (hb.mono hB.out.size))
  clear hb G4
  go_wp2_with fail
  refine (G5 _ HT.out).out.mono ?_
  rintro e w5 ⟨rfl, hb⟩
  replace HT := Lib.hid (HT.out.later hb)
  replace hB := Lib.hid (hB.out.trans (hb.mono hB.out.size))
  clear hb G5
  go_wp2_with fail
  refine (G6 _ HT.out).out.mono ?_
  rintro e w6 ⟨rfl, hb⟩
  replace HT := Lib.hid (HT.out.later hb)
  replace hB := Lib.hid (hB.out.trans (hb.mono hB.out.size))
  clear hb G6
  go_wp2_with fail
  refine (G7 _ HT.out).out.mono ?_
  rintro e w7 ⟨rfl, hb⟩
  replace HT := Lib.hid (HT.out.later hb)
  replace hB := Lib.hid (hB.out.trans (hb.mono hB.out.size))
  clear hb G7
  go_wp2_with fail
  refine (G8 _ HT.out).out.mono ?_
  rintro e w8 ⟨rfl, hb⟩
  replace HT := Lib.hid (HT.out.later hb)
  replace hB := Lib.hid (hB.out.trans (hb.mono hB.out.size))
  clear hb G8
  go_wp2_with fail
  refine (G9 _ HT.out).out.mono ?_
  rintro e w9 ⟨rfl, hb⟩
  replace HT := Lib.hid (HT.out.later hb)
  replace hB := Lib.hid (hB.out.trans (hb.mono hB.out.size))
  clear hb G9
  go_wp2_with fail
  refine (G10 _ HT.out).out.mono ?_
  rintro e w10 ⟨rfl, hb⟩
  replace HT := Lib.hid (HT.out.later hb)
  replace hB := Lib.hid (hB.out.trans (hb.mono hB.out.size))
  clear hb G10
  go_wp2_with fail
  refine (G11 _ HT.out).out.mono ?_
  rintro e w11 ⟨rfl, hb⟩
  replace HT := Lib.hid (HT.out.later hb)
  replace hB := Lib.hid (hB.out.trans (hb.mono hB.out.size))
  clear hb G11
  go_wp2
  go_ret
  exact ⟨rfl, hB.out⟩

set_option maxRecDepth 100000 in
set_option maxHeartbeats 4000000 in
theorem order_lt1 (a b c : ByteArray) (x y z d xz yz : List UInt8) (hneb : (x == y) = false) (w : World) (ht : Tab w)
    (H1 : ∀ W, Tab W → Calls Tryz.prog 12 #[] W fun e w' => e = .returned (.bool true) ∧ Below W.heap.size W w')
    (H2 : ∀ W, Tab W → Calls Tryz.prog 13 #[.string a, .int .i64 60] W fun e w' => e = .returned (txt x) ∧ Below W.heap.size W w')
    (H3 : ∀ W, Tab W → Calls Tryz.prog 13 #[.string b, .int .i64 60] W fun e w' => e = .returned (txt y) ∧ Below W.heap.size W w')
    (H4 : ∀ W, Tab W → Calls Tryz.prog 13 #[.string c, .int .i64 60] W fun e w' => e = .returned (txt z) ∧ Below W.heap.size W w')
    (H5 : ∀ W, Tab W → Calls Tryz.prog 18 #[txt x, txt y] W fun e w' => e = .returned (.int .i64 (-1)) ∧ Below W.heap.size W w')
    (H6 : ∀ W, Tab W → Calls Tryz.prog 16 #[txt x, txt y] W fun e w' => e = .returned (.tuple #[txt d, .int .i64 0]) ∧ Below W.heap.size W w')
    (H7 : ∀ W, Tab W → Calls Tryz.prog 14 #[txt x, txt z] W fun e w' => e = .returned (.tuple #[txt xz, .int .i64 0]) ∧ Below W.heap.size W w')
    (H8 : ∀ W, Tab W → Calls Tryz.prog 14 #[txt y, txt z] W fun e w' => e = .returned (.tuple #[txt yz, .int .i64 0]) ∧ Below W.heap.size W w')
    (H9 : ∀ W, Tab W → Calls Tryz.prog 18 #[txt y, txt x] W fun e w' => e = .returned (.int .i64 1) ∧ Below W.heap.size W w')
    (H10 : ∀ W, Tab W → Calls Tryz.prog 18 #[txt d, .string { data := #[48] }] W fun e w' => e = .returned (.int .i64 (-1)) ∧ Below W.heap.size W w')
    (H11 : ∀ W, Tab W → Calls Tryz.prog 18 #[txt xz, txt yz] W fun e w' => e = .returned (.int .i64 (-1)) ∧ Below W.heap.size W w')
    (H12 : ∀ W, Tab W → Calls Tryz.prog 18 #[txt y, txt z] W fun e w' => e = .returned (.int .i64 1) ∧ Below W.heap.size W w') :
    Calls Tryz.prog 7 #[.string a, .string b, .string c] w fun e w' => e = .returned (.bool true) ∧ Below w.heap.size w w' := by
  have HT := Lib.hid ht
  have hB := Lib.hid (Below.refl w.heap.size w)
  clear ht
  have G1 := fun W (hW : Tab W) => Lib.hid (H1 W hW)
  have G2 := fun W (hW : Tab W) => Lib.hid (H2 W hW)
  have G3 := fun W (hW : Tab W) => Lib.hid (H3 W hW)
  have G4 := fun W (hW : Tab W) => Lib.hid (H4 W hW)
  have G5 := fun W (hW : Tab W) => Lib.hid (H5 W hW)
  have G6 := fun W (hW : Tab W) => Lib.hid (H6 W hW)
  have G7 := fun W (hW : Tab W) => Lib.hid (H7 W hW)
  have G8 := fun W (hW : Tab W) => Lib.hid (H8 W hW)
  have G9 := fun W (hW : Tab W) => Lib.hid (H9 W hW)
  have G10 := fun W (hW : Tab W) => Lib.hid (H10 W hW)
  have G11 := fun W (hW : Tab W) => Lib.hid (H11 W hW)
  have G12 := fun W (hW : Tab W) => Lib.hid (H12 W hW)
  clear H1 H2 H3 H4 H5 H6 H7 H8 H9 H10 H11 H12
  go_enter Tryz.func7, Tryz.ntmps7
  go_wp2_with fail
  refine (G1 _ HT.out).out.mono ?_
  rintro e w1 ⟨rfl, hb⟩
  replace HT := Lib.hid (HT.out.later hb)
  replace hB := Lib.hid (hB.out.trans (hb.mono hB.out.size))
  clear hb G1
  go_wp2_with fail
  refine (G2 _ HT.out).out.mono ?_
  rintro e w2 ⟨rfl, hb⟩
  replace HT := Lib.hid (HT.out.later hb)
  replace hB := Lib.hid (hB.out.trans (hb.mono hB.out.size))
  clear hb G2
  go_wp2_with fail
  refine (G3 _ HT.out).out.mono ?_
  rintro e w3 ⟨rfl, hb⟩
  replace HT := Lib.hid (HT.out.later hb)
  replace hB := Lib.hid (hB.out.trans (hb.mono hB.out.size))
  clear hb G3
  go_wp2_with fail
  refine (G4 _ HT.out).out.mono ?_
  rintro e w4 ⟨rfl, hb⟩
  replace HT := Lib.hid (HT.out.later hb)
  replace hB := Lib.hid (hB.out.trans (hb.mono hB.out.size))
  clear hb G4
  go_wp2_with fail
  refine (G5 _ HT.out).out.mono ?_
  rintro e w5 ⟨rfl, hb⟩
  replace HT := Lib.hid (HT.out.later hb)
  replace hB := Lib.hid (hB.out.trans (hb.mono hB.out.size))
  clear hb G5
  go_wp2_with fail
  refine (G6 _ HT.out).out.mono ?_
  rintro e w6 ⟨rfl, hb⟩
  replace HT := Lib.hid (HT.out.later hb)
  replace hB := Lib.hid (hB.out.trans (hb.mono hB.out.size))
  clear hb G6
  go_wp2_with fail
  refine (G7 _ HT.out).out.mono ?_
  rintro e w7 ⟨rfl, hb⟩
  replace HT := Lib.hid (HT.out.later hb)
  replace hB := Lib.hid (hB.out.trans (hb.mono hB.out.size))
  clear hb G7
  go_wp2_with fail
  refine (G8 _ HT.out).out.mono ?_
  rintro e w8 ⟨rfl, hb⟩
  replace HT := Lib.hid (HT.out.later hb)
  replace hB := Lib.hid (hB.out.trans (hb.mono hB.out.size))
  clear hb G8
  go_wp2_with fail
  refine (G9 _ HT.out).out.mono ?_
  rintro e w9 ⟨rfl, hb⟩
  replace HT := Lib.hid (HT.out.later hb)
  replace hB := Lib.hid (hB.out.trans (hb.mono hB.out.size))
  clear hb G9
  go_wp2_with fail
  refine (G10 _ HT.out).out.mono ?_
  rintro e w10 ⟨rfl, hb⟩
  replace HT := Lib.hid (HT.out.later hb)
  replace hB := Lib.hid (hB.out.trans (hb.mono hB.out.size))
  clear hb G10
  go_wp2_with fail
  refine (G11 _ HT.out).out.mono ?_
  rintro e w11 ⟨rfl, hb⟩
  replace HT := Lib.hid (HT.out.later hb)
  replace hB := Lib.hid (hB.out.trans (hb.mono hB.out.size))
  clear hb G11
  go_wp2_with fail
  refine (G12 _ HT.out).out.mono ?_
  rintro e w12 ⟨rfl, hb⟩
  replace HT := Lib.hid (HT.out.later hb)
  replace hB := Lib.hid (hB.out.trans (hb.mono hB.out.size))
  clear hb G12
  go_wp2
  go_ret
  exact ⟨rfl, hB.out⟩

set_option maxRecDepth 100000 in
set_option maxHeartbeats 4000000 in
theorem order_lt2 (a b c : ByteArray) (x y z d xz yz : List UInt8) (hneb : (x == y) = false) (c2 c3 : Int) (hc2 : c2 ≤ 0) (hc3 : c3 ≤ 0) (w : World) (ht : Tab w)
    (H1 : ∀ W, Tab W → Calls Tryz.prog 12 #[] W fun e w' => e = .returned (.bool true) ∧ Below W.heap.size W w')
    (H2 : ∀ W, Tab W → Calls Tryz.prog 13 #[.string a, .int .i64 60] W fun e w' => e = .returned (txt x) ∧ Below W.heap.size W w')
    (H3 : ∀ W, Tab W → Calls Tryz.prog 13 #[.string b, .int .i64 60] W fun e w' => e = .returned (txt y) ∧ Below W.heap.size W w')
    (H4 : ∀ W, Tab W → Calls Tryz.prog 13 #[.string c, .int .i64 60] W fun e w' => e = .returned (txt z) ∧ Below W.heap.size W w')
    (H5 : ∀ W, Tab W → Calls Tryz.prog 18 #[txt x, txt y] W fun e w' => e = .returned (.int .i64 (-1)) ∧ Below W.heap.size W w')
    (H6 : ∀ W, Tab W → Calls Tryz.prog 16 #[txt x, txt y] W fun e w' => e = .returned (.tuple #[txt d, .int .i64 0]) ∧ Below W.heap.size W w')
    (H7 : ∀ W, Tab W → Calls Tryz.prog 14 #[txt x, txt z] W fun e w' => e = .returned (.tuple #[txt xz, .int .i64 0]) ∧ Below W.heap.size W w')
    (H8 : ∀ W, Tab W → Calls Tryz.prog 14 #[txt y, txt z] W fun e w' => e = .returned (.tuple #[txt yz, .int .i64 0]) ∧ Below W.heap.size W w')
    (H9 : ∀ W, Tab W → Calls Tryz.prog 18 #[txt y, txt x] W fun e w' => e = .returned (.int .i64 1) ∧ Below W.heap.size W w')
    (H10 : ∀ W, Tab W → Calls Tryz.prog 18 #[txt d, .string { data := #[48] }] W fun e w' => e = .returned (.int .i64 (-1)) ∧ Below W.heap.size W w')
    (H11 : ∀ W, Tab W → Calls Tryz.prog 18 #[txt xz, txt yz] W fun e w' => e = .returned (.int .i64 (-1)) ∧ Below W.heap.size W w')
    (H12 : ∀ W, Tab W → Calls Tryz.prog 18 #[txt y, txt z] W fun e w' => e = .returned (.int .i64 c2) ∧ Below W.heap.size W w')
    (H13 : ∀ W, Tab W → Calls Tryz.prog 18 #[txt x, txt z] W fun e w' => e = .returned (.int .i64 c3) ∧ Below W.heap.size W w') :
    Calls Tryz.prog 7 #[.string a, .string b, .string c] w fun e w' => e = .returned (.bool true) ∧ Below w.heap.size w w' := by
  have HT := Lib.hid ht
  have hB := Lib.hid (Below.refl w.heap.size w)
  clear ht
  have G1 := fun W (hW : Tab W) => Lib.hid (H1 W hW)
  have G2 := fun W (hW : Tab W) => Lib.hid (H2 W hW)
  have G3 := fun W (hW : Tab W) => Lib.hid (H3 W hW)
  have G4 := fun W (hW : Tab W) => Lib.hid (H4 W hW)
  have G5 := fun W (hW : Tab W) => Lib.hid (H5 W hW)
  have G6 := fun W (hW : Tab W) => Lib.hid (H6 W hW)
  have G7 := fun W (hW : Tab W) => Lib.hid (H7 W hW)
  have G8 := fun W (hW : Tab W) => Lib.hid (H8 W hW)
  have G9 := fun W (hW : Tab W) => Lib.hid (H9 W hW)
  have G10 := fun W (hW : Tab W) => Lib.hid (H10 W hW)
  have G11 := fun W (hW : Tab W) => Lib.hid (H11 W hW)
  have G12 := fun W (hW : Tab W) => Lib.hid (H12 W hW)
  have G13 := fun W (hW : Tab W) => Lib.hid (H13 W hW)
  clear H1 H2 H3 H4 H5 H6 H7 H8 H9 H10 H11 H12 H13
  go_enter Tryz.func7, Tryz.ntmps7
  go_wp2_with fail
  refine (G1 _ HT.out).out.mono ?_
  rintro e w1 ⟨rfl, hb⟩
  replace HT := Lib.hid (HT.out.later hb)
  replace hB := Lib.hid (hB.out.trans (hb.mono hB.out.size))
  clear hb G1
  go_wp2_with fail
  refine (G2 _ HT.out).out.mono ?_
  rintro e w2 ⟨rfl, hb⟩
  replace HT := Lib.hid (HT.out.later hb)
  replace hB := Lib.hid (hB.out.trans (hb.mono hB.out.size))
  clear hb G2
  go_wp2_with fail
  refine (G3 _ HT.out).out.mono ?_
  rintro e w3 ⟨rfl, hb⟩
  replace HT := Lib.hid (HT.out.later hb)
  replace hB := Lib.hid (hB.out.trans (hb.mono hB.out.size))
  clear hb G3
  go_wp2_with fail
  refine (G4 _ HT.out).out.mono ?_
  rintro e w4 ⟨rfl, hb⟩
  replace HT := Lib.hid (HT.out.later hb)
  replace hB := Lib.hid (hB.out.trans (hb.mono hB.out.size))
  clear hb G4
  go_wp2_with fail
  refine (G5 _ HT.out).out.mono ?_
  rintro e w5 ⟨rfl, hb⟩
  replace HT := Lib.hid (HT.out.later hb)
  replace hB := Lib.hid (hB.out.trans (hb.mono hB.out.size))
  clear hb G5
  go_wp2_with fail
  refine (G6 _ HT.out).out.mono ?_
  rintro e w6 ⟨rfl, hb⟩
  replace HT := Lib.hid (HT.out.later hb)
  replace hB := Lib.hid (hB.out.trans (hb.mono hB.out.size))
  clear hb G6
  go_wp2_with fail
  refine (G7 _ HT.out).out.mono ?_
  rintro e w7 ⟨rfl, hb⟩
  replace HT := Lib.hid (HT.out.later hb)
  replace hB := Lib.hid (hB.out.trans (hb.mono hB.out.size))
  clear hb G7
  go_wp2_with fail
  refine (G8 _ HT.out).out.mono ?_
  rintro e w8 ⟨rfl, hb⟩
  replace HT := Lib.hid (HT.out.later hb)
  replace hB := Lib.hid (hB.out.trans (hb.mono hB.out.size))
  clear hb G8
  go_wp2_with fail
  refine (G9 _ HT.out).out.mono ?_
  rintro e w9 ⟨rfl, hb⟩
  replace HT := Lib.hid (HT.out.later hb)
  replace hB := Lib.hid (hB.out.trans (hb.mono hB.out.size))
  clear hb G9
  go_wp2_with fail
  refine (G10 _ HT.out).out.mono ?_
  rintro e w10 ⟨rfl, hb⟩
  replace HT := Lib.hid (HT.out.later hb)
  replace hB := Lib.hid (hB.out.trans (hb.mono hB.out.size))
  clear hb G10
  go_wp2_with fail
  refine (G11 _ HT.out).out.mono ?_
  rintro e w11 ⟨rfl, hb⟩
  replace HT := Lib.hid (HT.out.later hb)
  replace hB := Lib.hid (hB.out.trans (hb.mono hB.out.size))
  clear hb G11
  go_wp2_with fail
  refine (G12 _ HT.out).out.mono ?_
  rintro e w12 ⟨rfl, hb⟩
  replace HT := Lib.hid (HT.out.later hb)
  replace hB := Lib.hid (hB.out.trans (hb.mono hB.out.size))
  clear hb G12
  go_wp2_with fail
  refine (G13 _ HT.out).out.mono ?_
  rintro e w13 ⟨rfl, hb⟩
  replace HT := Lib.hid (HT.out.later hb)
  replace hB := Lib.hid (hB.out.trans (hb.mono hB.out.size))
  clear hb G13
  go_wp2
  go_ret
  exact ⟨rfl, hB.out⟩

set_option maxRecDepth 100000 in
set_option maxHeartbeats 4000000 in
theorem order_eq1 (a b c : ByteArray) (x z d xz yz : List UInt8) (w : World) (ht : Tab w)
    (H1 : ∀ W, Tab W → Calls Tryz.prog 12 #[] W fun e w' => e = .returned (.bool true) ∧ Below W.heap.size W w')
    (H2 : ∀ W, Tab W → Calls Tryz.prog 13 #[.string a, .int .i64 60] W fun e w' => e = .returned (txt x) ∧ Below W.heap.size W w')
    (H3 : ∀ W, Tab W → Calls Tryz.prog 13 #[.string b, .int .i64 60] W fun e w' => e = .returned (txt x) ∧ Below W.heap.size W w')
    (H4 : ∀ W, Tab W → Calls Tryz.prog 13 #[.string c, .int .i64 60] W fun e w' => e = .returned (txt z) ∧ Below W.heap.size W w')
    (H5 : ∀ W, Tab W → Calls Tryz.prog 18 #[txt x, txt x] W fun e w' => e = .returned (.int .i64 0) ∧ Below W.heap.size W w')
    (H6 : ∀ W, Tab W → Calls Tryz.prog 16 #[txt x, txt x] W fun e w' => e = .returned (.tuple #[txt d, .int .i64 0]) ∧ Below W.heap.size W w')
    (H7 : ∀ W, Tab W → Calls Tryz.prog 14 #[txt x, txt z] W fun e w' => e = .returned (.tuple #[txt xz, .int .i64 0]) ∧ Below W.heap.size W w')
    (H8 : ∀ W, Tab W → Calls Tryz.prog 14 #[txt x, txt z] W fun e w' => e = .returned (.tuple #[txt yz, .int .i64 0]) ∧ Below W.heap.size W w')
    (H9 : ∀ W, Tab W → Calls Tryz.prog 18 #[txt x, txt x] W fun e w' => e = .returned (.int .i64 0) ∧ Below W.heap.size W w')
    (H10 : ∀ W, Tab W → Calls Tryz.prog 18 #[txt d, .string { data := #[48] }] W fun e w' => e = .returned (.int .i64 0) ∧ Below W.heap.size W w')
    (H11 : ∀ W, Tab W → Calls Tryz.prog 18 #[txt xz, txt yz] W fun e w' => e = .returned (.int .i64 0) ∧ Below W.heap.size W w')
    (H12 : ∀ W, Tab W → Calls Tryz.prog 18 #[txt x, txt z] W fun e w' => e = .returned (.int .i64 1) ∧ Below W.heap.size W w') :
    Calls Tryz.prog 7 #[.string a, .string b, .string c] w fun e w' => e = .returned (.bool true) ∧ Below w.heap.size w w' := by
  have HT := Lib.hid ht
  have hB := Lib.hid (Below.refl w.heap.size w)
  clear ht
  have G1 := fun W (hW : Tab W) => Lib.hid (H1 W hW)
  have G2 := fun W (hW : Tab W) => Lib.hid (H2 W hW)
  have G3 := fun W (hW : Tab W) => Lib.hid (H3 W hW)
  have G4 := fun W (hW : Tab W) => Lib.hid (H4 W hW)
  have G5 := fun W (hW : Tab W) => Lib.hid (H5 W hW)
  have G6 := fun W (hW : Tab W) => Lib.hid (H6 W hW)
  have G7 := fun W (hW : Tab W) => Lib.hid (H7 W hW)
  have G8 := fun W (hW : Tab W) => Lib.hid (H8 W hW)
  have G9 := fun W (hW : Tab W) => Lib.hid (H9 W hW)
  have G10 := fun W (hW : Tab W) => Lib.hid (H10 W hW)
  have G11 := fun W (hW : Tab W) => Lib.hid (H11 W hW)
  have G12 := fun W (hW : Tab W) => Lib.hid (H12 W hW)
  clear H1 H2 H3 H4 H5 H6 H7 H8 H9 H10 H11 H12
  go_enter Tryz.func7, Tryz.ntmps7
  go_wp2_with fail
  refine (G1 _ HT.out).out.mono ?_
  rintro e w1 ⟨rfl, hb⟩
  replace HT := Lib.hid (HT.out.later hb)
  replace hB := Lib.hid (hB.out.trans (hb.mono hB.out.size))
  clear hb G1
  go_wp2_with fail
  refine (G2 _ HT.out).out.mono ?_
  rintro e w2 ⟨rfl, hb⟩
  replace HT := Lib.hid (HT.out.later hb)
  replace hB := Lib.hid (hB.out.trans (hb.mono hB.out.size))
  clear hb G2
  go_wp2_with fail
  refine (G3 _ HT.out).out.mono ?_
  rintro e w3 ⟨rfl, hb⟩
  replace HT := Lib.hid (HT.out.later hb)
  replace hB := Lib.hid (hB.out.trans (hb.mono hB.out.size))
  clear hb G3
  go_wp2_with fail
  refine (G4 _ HT.out).out.mono ?_
  rintro e w4 ⟨rfl, hb⟩
  replace HT := Lib.hid (HT.out.later hb)
  replace hB := Lib.hid (hB.out.trans (hb.mono hB.out.size))
  clear hb G4
  go_wp2_with fail
  refine (G5 _ HT.out).out.mono ?_
  rintro e w5 ⟨rfl, hb⟩
  replace HT := Lib.hid (HT.out.later hb)
  replace hB := Lib.hid (hB.out.trans (hb.mono hB.out.size))
  clear hb G5
  go_wp2_with fail
  refine (G6 _ HT.out).out.mono ?_
  rintro e w6 ⟨rfl, hb⟩
  replace HT := Lib.hid (HT.out.later hb)
  replace hB := Lib.hid (hB.out.trans (hb.mono hB.out.size))
  clear hb G6
  go_wp2_with fail
  refine (G7 _ HT.out).out.mono ?_
  rintro e w7 ⟨rfl, hb⟩
  replace HT := Lib.hid (HT.out.later hb)
  replace hB := Lib.hid (hB.out.trans (hb.mono hB.out.size))
  clear hb G7
  go_wp2_with fail
  refine (G8 _ HT.out).out.mono ?_
  rintro e w8 ⟨rfl, hb⟩
  replace HT := Lib.hid (HT.out.later hb)
  replace hB := Lib.hid (hB.out.trans (hb.mono hB.out.size))
  clear hb G8
  go_wp2_with fail
  refine (G9 _ HT.out).out.mono ?_
  rintro e w9 ⟨rfl, hb⟩
  replace HT := Lib.hid (HT.out.later hb)
  replace hB := Lib.hid (hB.out.trans (hb.mono hB.out.size))
  clear hb G9
  go_wp2_with fail
  refine (G10 _ HT.out).out.mono ?_
  rintro e w10 ⟨rfl, hb⟩
  replace HT := Lib.hid (HT.out.later hb)
  replace hB := Lib.hid (hB.out.trans (hb.mono hB.out.size))
  clear hb G10
  go_wp2_with fail
  refine (G11 _ HT.out).out.mono ?_
  rintro e w11 ⟨rfl, hb⟩
  replace HT := Lib.hid (HT.out.later hb)
  replace hB := Lib.hid (hB.out.trans (hb.mono hB.out.size))
  clear hb G11
  go_wp2_with fail
  refine (G12 _ HT.out).out.mono ?_
  rintro e w12 ⟨rfl, hb⟩
  replace HT := Lib.hid (HT.out.later hb)
  replace hB := Lib.hid (hB.out.trans (hb.mono hB.out.size))
  clear hb G12
  go_wp2
  go_ret
  exact ⟨rfl, hB.out⟩

set_option maxRecDepth 100000 in
set_option maxHeartbeats 4000000 in
theorem order_eq2 (a b c : ByteArray) (x z d xz yz : List UInt8) (c2 : Int) (hc2 : c2 ≤ 0) (w : World) (ht : Tab w)
    (H1 : ∀ W, Tab W → Calls Tryz.prog 12 #[] W fun e w' => e = .returned (.bool true) ∧ Below W.heap.size W w')
    (H2 : ∀ W, Tab W → Calls Tryz.prog 13 #[.string a, .int .i64 60] W fun e w' => e = .returned (txt x) ∧ Below W.heap.size W w')
    (H3 : ∀ W, Tab W → Calls Tryz.prog 13 #[.string b, .int .i64 60] W fun e w' => e = .returned (txt x) ∧ Below W.heap.size W w')
    (H4 : ∀ W, Tab W → Calls Tryz.prog 13 #[.string c, .int .i64 60] W fun e w' => e = .returned (txt z) ∧ Below W.heap.size W w')
    (H5 : ∀ W, Tab W → Calls Tryz.prog 18 #[txt x, txt x] W fun e w' => e = .returned (.int .i64 0) ∧ Below W.heap.size W w')
    (H6 : ∀ W, Tab W → Calls Tryz.prog 16 #[txt x, txt x] W fun e w' => e = .returned (.tuple #[txt d, .int .i64 0]) ∧ Below W.heap.size W w')
    (H7 : ∀ W, Tab W → Calls Tryz.prog 14 #[txt x, txt z] W fun e w' => e = .returned (.tuple #[txt xz, .int .i64 0]) ∧ Below W.heap.size W w')
    (H8 : ∀ W, Tab W → Calls Tryz.prog 14 #[txt x, txt z] W fun e w' => e = .returned (.tuple #[txt yz, .int .i64 0]) ∧ Below W.heap.size W w')
    (H9 : ∀ W, Tab W → Calls Tryz.prog 18 #[txt x, txt x] W fun e w' => e = .returned (.int .i64 0) ∧ Below W.heap.size W w')
    (H10 : ∀ W, Tab W → Calls Tryz.prog 18 #[txt d, .string { data := #[48] }] W fun e w' => e = .returned (.int .i64 0) ∧ Below W.heap.size W w')
    (H11 : ∀ W, Tab W → Calls Tryz.prog 18 #[txt xz, txt yz] W fun e w' => e = .returned (.int .i64 0) ∧ Below W.heap.size W w')
    (H12 : ∀ W, Tab W → Calls Tryz.prog 18 #[txt x, txt z] W fun e w' => e = .returned (.int .i64 c2) ∧ Below W.heap.size W w')
    (H13 : ∀ W, Tab W → Calls Tryz.prog 18 #[txt x, txt z] W fun e w' => e = .returned (.int .i64 c2) ∧ Below W.heap.size W w') :
    Calls Tryz.prog 7 #[.string a, .string b, .string c] w fun e w' => e = .returned (.bool true) ∧ Below w.heap.size w w' := by
  have HT := Lib.hid ht
  have hB := Lib.hid (Below.refl w.heap.size w)
  clear ht
  have G1 := fun W (hW : Tab W) => Lib.hid (H1 W hW)
  have G2 := fun W (hW : Tab W) => Lib.hid (H2 W hW)
  have G3 := fun W (hW : Tab W) => Lib.hid (H3 W hW)
  have G4 := fun W (hW : Tab W) => Lib.hid (H4 W hW)
  have G5 := fun W (hW : Tab W) => Lib.hid (H5 W hW)
  have G6 := fun W (hW : Tab W) => Lib.hid (H6 W hW)
  have G7 := fun W (hW : Tab W) => Lib.hid (H7 W hW)
  have G8 := fun W (hW : Tab W) => Lib.hid (H8 W hW)
  have G9 := fun W (hW : Tab W) => Lib.hid (H9 W hW)
  have G10 := fun W (hW : Tab W) => Lib.hid (H10 W hW)
  have G11 := fun W (hW : Tab W) => Lib.hid (H11 W hW)
  have G12 := fun W (hW : Tab W) => Lib.hid (H12 W hW)
  have G13 := fun W (hW : Tab W) => Lib.hid (H13 W hW)
  clear H1 H2 H3 H4 H5 H6 H7 H8 H9 H10 H11 H12 H13
  go_enter Tryz.func7, Tryz.ntmps7
  go_wp2_with fail
  refine (G1 _ HT.out).out.mono ?_
  rintro e w1 ⟨rfl, hb⟩
  replace HT := Lib.hid (HT.out.later hb)
  replace hB := Lib.hid (hB.out.trans (hb.mono hB.out.size))
  clear hb G1
  go_wp2_with fail
  refine (G2 _ HT.out).out.mono ?_
  rintro e w2 ⟨rfl, hb⟩
  replace HT := Lib.hid (HT.out.later hb)
  replace hB := Lib.hid (hB.out.trans (hb.mono hB.out.size))
  clear hb G2
  go_wp2_with fail
  refine (G3 _ HT.out).out.mono ?_
  rintro e w3 ⟨rfl, hb⟩
  replace HT := Lib.hid (HT.out.later hb)
  replace hB := Lib.hid (hB.out.trans (hb.mono hB.out.size))
  clear hb G3
  go_wp2_with fail
  refine (G4 _ HT.out).out.mono ?_
  rintro e w4 ⟨rfl, hb⟩
  replace HT := Lib.hid (HT.out.later hb)
  replace hB := Lib.hid (hB.out.trans (hb.mono hB.out.size))
  clear hb G4
  go_wp2_with fail
  refine (G5 _ HT.out).out.mono ?_
  rintro e w5 ⟨rfl, hb⟩
  replace HT := Lib.hid (HT.out.later hb)
  replace hB := Lib.hid (hB.out.trans (hb.mono hB.out.size))
  clear hb G5
  go_wp2_with fail
  refine (G6 _ HT.out).out.mono ?_
  rintro e w6 ⟨rfl, hb⟩
  replace HT := Lib.hid (HT.out.later hb)
  replace hB := Lib.hid (hB.out.trans (hb.mono hB.out.size))
  clear hb G6
  go_wp2_with fail
  refine (G7 _ HT.out).out.mono ?_
  rintro e w7 ⟨rfl, hb⟩
  replace HT := Lib.hid (HT.out.later hb)
  replace hB := Lib.hid (hB.out.trans (hb.mono hB.out.size))
  clear hb G7
  go_wp2_with fail
  refine (G8 _ HT.out).out.mono ?_
  rintro e w8 ⟨rfl, hb⟩
  replace HT := Lib.hid (HT.out.later hb)
  replace hB := Lib.hid (hB.out.trans (hb.mono hB.out.size))
  clear hb G8
  go_wp2_with fail
  refine (G9 _ HT.out).out.mono ?_
  rintro e w9 ⟨rfl, hb⟩
  replace HT := Lib.hid (HT.out.later hb)
  replace hB := Lib.hid (hB.out.trans (hb.mono hB.out.size))
  clear hb G9
  go_wp2_with fail
  refine (G10 _ HT.out).out.mono ?_
  rintro e w10 ⟨rfl, hb⟩
  replace HT := Lib.hid (HT.out.later hb)
  replace hB := Lib.hid (hB.out.trans (hb.mono hB.out.size))
  clear hb G10
  go_wp2_with fail
  refine (G11 _ HT.out).out.mono ?_
  rintro e w11 ⟨rfl, hb⟩
  replace HT := Lib.hid (HT.out.later hb)
  replace hB := Lib.hid (hB.out.trans (hb.mono hB.out.size))
  clear hb G11
  go_wp2_with fail
  refine (G12 _ HT.out).out.mono ?_
  rintro e w12 ⟨rfl, hb⟩
  replace HT := Lib.hid (HT.out.later hb)
  replace hB := Lib.hid (hB.out.trans (hb.mono hB.out.size))
  clear hb G12
  go_wp2_with fail
  refine (G13 _ HT.out).out.mono ?_
  rintro e w13 ⟨rfl, hb⟩
  replace HT := Lib.hid (HT.out.later hb)
  replace hB := Lib.hid (hB.out.trans (hb.mono hB.out.size))
  clear hb G13
  go_wp2
  go_ret
  exact ⟨rfl, hB.out⟩
end Go.Proofs.YtabodoellnmofaaGreatDoor
namespace Go.Proofs.YtabodoellnmofaaGreatDoor
open Go.RowKit Go.Shelf

theorem order_any (a b c : ByteArray) (w : World) (ht : Tab w) :
    Calls Tryz.prog 7 #[.string a, .string b, .string c] w fun e w' => e = .returned (.bool true) ∧ Below w.heap.size w w' := by
  have hX := madeZ_lt a.data.toList 60
  have hY := madeZ_lt b.data.toList 60
  have hZ := madeZ_lt c.data.toList 60
  obtain ⟨X, eX⟩ : ∃ X, X = madeZ a.data.toList 60 := ⟨_, rfl⟩
  obtain ⟨Y, eY⟩ : ∃ Y, Y = madeZ b.data.toList 60 := ⟨_, rfl⟩
  obtain ⟨Z, eZ⟩ : ∃ Z, Z = madeZ c.data.toList 60 := ⟨_, rfl⟩
  rw [← eX] at hX
  rw [← eY] at hY
  rw [← eZ] at hZ
  have l60 : (10 : Nat) ^ 60 ≤ 10 ^ 200 := by decide +kernel
  have l61 : (10 : Nat) ^ 61 ≤ 10 ^ 200 := by decide +kernel
  have bX := Nat.lt_of_lt_of_le hX l60
  have bY := Nat.lt_of_lt_of_le hY l60
  have bZ := Nat.lt_of_lt_of_le hZ l60
  have bd : (X - Y).natAbs < 10 ^ 200 := Nat.lt_of_lt_of_le (abs_sub hX hY (by decide +kernel)) l61
  have bxz : (X + Z).natAbs < 10 ^ 200 := Nat.lt_of_lt_of_le (abs_add hX hZ (by decide +kernel)) l61
  have byz : (Y + Z).natAbs < 10 ^ 200 := Nat.lt_of_lt_of_le (abs_add hY hZ (by decide +kernel)) l61
  have hs := fun W hW => sane_any W hW
  have m1 := made_is a 60 (by omega) (Lib.itoa X) (by rw [eX])
  have m2 := made_is b 60 (by omega) (Lib.itoa Y) (by rw [eY])
  have m3 := made_is c 60 (by omega) (Lib.itoa Z) (by rw [eZ])
  have s1 := sub_is X Y (X - Y) _ _ _ bX bY bd rfl rfl rfl rfl
  have a1 := add_is X Z (X + Z) _ _ _ bX bZ bxz rfl rfl rfl rfl
  have a2 := add_is Y Z (Y + Z) _ _ _ bY bZ byz rfl rfl rfl rfl
  rcases Int.lt_trichotomy X Y with h | h | h
  · have hne : X ≠ Y := by omega
    have c1 := cmp_is X Y (-1) _ _ bX bY (sgn_of_lt h) rfl rfl
    have c4 := cmp_is Y X 1 _ _ bY bX (sgn_of_gt h) rfl rfl
    have c5 := cmp_is (X - Y) 0 (-1) _ [48] bd abs0 (sgn_of_lt (by omega)) rfl zero_txt
    have c6 := cmp_is (X + Z) (Y + Z) (-1) _ _ bxz byz (sgn_of_lt (by omega)) rfl rfl
    by_cases hyz : Z < Y
    · exact order_lt1 a b c _ _ _ _ _ _ (itoa_neb hne) w ht hs m1 m2 m3 c1 s1 a1 a2 c4 c5 c6 (cmp_is Y Z 1 _ _ bY bZ (sgn_of_gt hyz) rfl rfl)
    · exact order_lt2 a b c _ _ _ _ _ _ (itoa_neb hne) (sgn Y Z) (sgn X Z) (sgn_le (by omega)) (sgn_le (by omega)) w ht hs m1 m2 m3 c1 s1 a1 a2 c4 c5 c6 (cmp_is Y Z _ _ _ bY bZ rfl rfl rfl) (cmp_is X Z _ _ _ bX bZ rfl rfl rfl)
  · subst h
    have c1 := cmp_is X X 0 _ _ bX bX (sgn_self X) rfl rfl
    have c5 := cmp_is (X - X) 0 0 _ [48] bd abs0 (by rw [show X - X = 0 by omega]; exact sgn_self 0) rfl zero_txt
    have c6 := cmp_is (X + Z) (X + Z) 0 _ _ bxz bxz (sgn_self _) rfl rfl
    by_cases hyz : Z < X
    · exact order_eq1 a b c _ _ _ _ _ w ht hs m1 m2 m3 c1 s1 a1 a2 c1 c5 c6 (cmp_is X Z 1 _ _ bX bZ (sgn_of_gt hyz) rfl rfl)
    · exact order_eq2 a b c _ _ _ _ _ (sgn X Z) (sgn_le (by omega)) w ht hs m1 m2 m3 c1 s1 a1 a2 c1 c5 c6 (cmp_is X Z _ _ _ bX bZ rfl rfl rfl) (cmp_is X Z _ _ _ bX bZ rfl rfl rfl)
  · have hne : X ≠ Y := by omega
    have c1 := cmp_is X Y 1 _ _ bX bY (sgn_of_gt h) rfl rfl
    have c4 := cmp_is Y X (-1) _ _ bY bX (sgn_of_lt h) rfl rfl
    have c5 := cmp_is (X - Y) 0 1 _ [48] bd abs0 (sgn_of_gt (by omega)) rfl zero_txt
    have c6 := cmp_is (X + Z) (Y + Z) 1 _ _ bxz byz (sgn_of_gt (by omega)) rfl rfl
    exact order_gt a b c _ _ _ _ _ _ (itoa_neb hne) w ht hs m1 m2 m3 c1 s1 a1 a2 c4 c5 c6
end Go.Proofs.YtabodoellnmofaaGreatDoor
