/- FromInt, ToInt; IntegerMachine: the walks, and that it answers true. -/
import Derived.Test.YtabodoellnmofaaGreatDoorSane
import Derived.Test.YtabodoellnmofaaGreatDoorMade
namespace Go.Proofs.YtabodoellnmofaaGreatDoor
open Go.RowKit Go.Shelf

theorem from_any (z : Int) (w : World) (h0 : -9223372036854775808 ≤ z) (h1 : z ≤ 9223372036854775807) (ht : Tab w) :
    Calls Tryz.prog 35 #[.int .i64 z] w fun e w' => e = .returned (txt (Lib.itoa z)) ∧ Below w.heap.size w w' := by
  go_enter Tryz.func35, Tryz.ntmps35
  go_wp2_with (go_at_call 58; refine (itoa_any z w h0 h1 ht).mono ?_; rintro e w1 ⟨rfl, hb⟩)
  go_ret
  exact ⟨rfl, hb⟩
theorem from_is (z : Int) (l : List UInt8) (e : Lib.itoa z = l) (h0 : -9223372036854775808 ≤ z) (h1 : z ≤ 9223372036854775807) (W : World) (hW : Tab W) :
    Calls Tryz.prog 35 #[.int .i64 z] W fun e w' => e = .returned (txt l) ∧ Below W.heap.size W w' := by
  subst e
  exact from_any z W h0 h1 hW

theorem atoi_itoa (z : Int) : Lib.atoi (Lib.itoa z) = some z := by
  have hd := Dec.decDigits_digits z.natAbs
  have hne := Dec.decDigits_ne z.natAbs
  rcases Int.lt_or_le z 0 with h | h
  · rw [Dec.itoa_neg h]
    show (Lib.decNat (Lib.decDigits z.natAbs)).map (fun (m : Nat) => -(m : Int)) = some z
    unfold Lib.decNat
    rw [if_neg (by simpa using hne), Dec.decFrom_digits _ _ hd, Dec.dval_decDigits]
    simp
    omega
  · rw [Dec.itoa_nonneg h, Dec.atoi_digits hd hne, Dec.dval_decDigits]
    congr 1
    omega

set_option maxRecDepth 100000 in
set_option maxHeartbeats 1000000 in
/-- ToInt of a text that is the numeral of a machine integer, given what Atoi answers. -/
theorem toint_ok (l : List UInt8) (z : Int) (w : World) (hl : l.length ≤ 1000000) (hv : Dec.vld l = true)
    (HA : Calls Tryz.prog 57 #[txt l] w fun e w' => e = .returned (.tuple #[.int .i64 z, .nilIface]) ∧ Below w.heap.size w w') :
    Calls Tryz.prog 31 #[txt l] w fun e w' => e = .returned (.tuple #[.int .i64 z, .int .i64 0]) ∧ Below w.heap.size w w' := by
  have HV := fun W => valid_any ⟨l.toArray⟩ W (by rw [Lib.size_eq]; simp; omega)
  simp only [hv] at HV
  go_enter Tryz.func31, Tryz.ntmps31
  go_wp2_with fail
  refine HA.mono ?_
  rintro e w1 ⟨rfl, hb1⟩
  go_wp2_with fail
  refine (HV _).mono ?_
  rintro e w2 ⟨rfl, hb2⟩
  go_wp2
  go_ret2
  exact ⟨rfl, hb1.trans (hb2.mono hb1.size)⟩

theorem toint_is (z : Int) (l : List UInt8) (e : Lib.itoa z = l) (hz : z.natAbs < 10 ^ 17) (W : World) (_ : Tab W) :
    Calls Tryz.prog 31 #[txt l] W fun e w' => e = .returned (.tuple #[.int .i64 z, .int .i64 0]) ∧ Below W.heap.size W w' := by
  subst e
  have hlen : (Lib.itoa z).length ≤ 18 := by
    have h2 := (Dec.decDigits_length z.natAbs 17 (by decide)).2 hz
    rcases Int.lt_or_le z 0 with h | h
    · rw [Dec.itoa_neg h, List.length_cons]; omega
    · rw [Dec.itoa_nonneg h]; omega
  refine toint_ok _ z W (by omega) (Dec.vld_itoa z (Nat.lt_of_lt_of_le hz (by decide +kernel))) ?_
  refine (Tryz.strconv_Atoi ⟨(Lib.itoa z).toArray⟩ z (by rw [Lib.size_eq]; exact hlen) (atoi_itoa z) W).mono ?_
  rintro e w' ⟨rfl, t, rfl⟩
  exact ⟨rfl, Lib.bytesWorld_below _ _ _⟩
end Go.Proofs.YtabodoellnmofaaGreatDoor
namespace Go.Proofs.YtabodoellnmofaaGreatDoor
open Go.RowKit Go.Shelf

set_option maxRecDepth 100000 in
set_option maxHeartbeats 8000000 in
theorem machine_lt_a (x y m0 d0 : Int) (s t sm df pr q r : List UInt8) (hx0 : -2147483648 ≤ x) (hx1 : x ≤ 2147483647) (hy0 : -2147483648 ≤ y) (hy1 : y ≤ 2147483647) (ho : x < y) (hm : 0 ≤ m0) (hm1 : m0 ≤ 2147483647) (hd0 : -2147483648 ≤ d0) (hd1 : d0 ≤ 2147483648) (hyne : (y == 0) = false) (hy : ¬ y = 0) (htm : Int.tmod x y = m0) (htd : Int.tdiv x y = d0) (hxy0 : -4611686018427387904 ≤ x * y) (hxy1 : x * y ≤ 4611686018427387904) (w : World) (ht : Tab w)
    (H1 : ∀ W, Tab W → Calls Tryz.prog 12 #[] W fun e w' => e = .returned (.bool true) ∧ Below W.heap.size W w')
    (H2 : ∀ W, Tab W → Calls Tryz.prog 35 #[.int .i64 x] W fun e w' => e = .returned (txt s) ∧ Below W.heap.size W w')
    (H3 : ∀ W, Tab W → Calls Tryz.prog 35 #[.int .i64 y] W fun e w' => e = .returned (txt t) ∧ Below W.heap.size W w')
    (H4 : ∀ W, Tab W → Calls Tryz.prog 31 #[txt s] W fun e w' => e = .returned (.tuple #[.int .i64 x, .int .i64 0]) ∧ Below W.heap.size W w')
    (H5 : ∀ W, Tab W → Calls Tryz.prog 14 #[txt s, txt t] W fun e w' => e = .returned (.tuple #[txt sm, .int .i64 0]) ∧ Below W.heap.size W w')
    (H6 : ∀ W, Tab W → Calls Tryz.prog 16 #[txt s, txt t] W fun e w' => e = .returned (.tuple #[txt df, .int .i64 0]) ∧ Below W.heap.size W w')
    (H7 : ∀ W, Tab W → Calls Tryz.prog 15 #[txt s, txt t] W fun e w' => e = .returned (.tuple #[txt pr, .int .i64 0]) ∧ Below W.heap.size W w')
    (H8 : ∀ W, Tab W → Calls Tryz.prog 35 #[.int .i64 (x + y)] W fun e w' => e = .returned (txt sm) ∧ Below W.heap.size W w')
    (H9 : ∀ W, Tab W → Calls Tryz.prog 35 #[.int .i64 (x - y)] W fun e w' => e = .returned (txt df) ∧ Below W.heap.size W w')
    (H10 : ∀ W, Tab W → Calls Tryz.prog 35 #[.int .i64 (x * y)] W fun e w' => e = .returned (txt pr) ∧ Below W.heap.size W w')
    (H11 : ∀ W, Tab W → Calls Tryz.prog 18 #[txt s, txt t] W fun e w' => e = .returned (.int .i64 (-1)) ∧ Below W.heap.size W w')
    (H12 : ∀ W, Tab W → Calls Tryz.prog 17 #[txt s, txt t] W fun e w' => e = .returned (.tuple #[txt q, txt r, .int .i64 0]) ∧ Below W.heap.size W w')
    (H13 : ∀ W, Tab W → Calls Tryz.prog 35 #[.int .i64 d0] W fun e w' => e = .returned (txt q) ∧ Below W.heap.size W w')
    (H14 : ∀ W, Tab W → Calls Tryz.prog 35 #[.int .i64 m0] W fun e w' => e = .returned (txt r) ∧ Below W.heap.size W w') :
    Calls Tryz.prog 10 #[.int .i32 x, .int .i32 y] w fun e w' => e = .returned (.bool true) ∧ Below w.heap.size w w' := by
  have HT := Lib.hid ht
  have hB := Lib.hid (Below.refl w.heap.size w)
  clear ht
  have G1 := fun W (hW : Tab W) => Lib.hid (H1 W hW)
  have G2 := fun W (hW : Tab W) => Lib.hid (H2 W hW)
  have G3 := fun W (hW : Tab W) => Lib.hid (H3 W hW)
  have G4 := fun W (hW : Tab W) => Lib.hid (H4 W hW)
  have G5 := fun W (hW : Tab W) => Lib.hid (H5 W hW)
  have G6 := fun W (hW : Tab W) => Lib.hid (H6 W hW)
  have G7 := fun W (hW : Tab W) => Lib.hid (H7 W hW)
  have G8 := fun W (hW : Tab W) => Lib.hid (H8 W hW)
  have G9 := fun W (hW : Tab W) => Lib.hid (H9 W hW)
  have G10 := fun W (hW : Tab W) => Lib.hid (H10 W hW)
  have G11 := fun W (hW : Tab W) => Lib.hid (H11 W hW)
  have G12 := fun W (hW : Tab W) => Lib.hid (H12 W hW)
  have G13 := fun W (hW : Tab W) => Lib.hid (H13 W hW)
  have G14 := fun W (hW : Tab W) => Lib.hid (H14 W hW)
  clear H1 H2 H3 H4 H5 H6 H7 H8 H9 H10 H11 H12 H13 H14
  go_enter Tryz.func10, Tryz.ntmps10
  go_wp2_with fail
  refine (G1 _ HT.out).out.mono ?_
  rintro e w1 ⟨rfl, hb⟩
  replace HT := Lib.hid (HT.out.later hb)
  replace hB := Lib.hid (hB.out.trans (hb.mono hB.out.size))
  clear hb G1
  go_wp2_with fail
  refine (G2 _ HT.out).out.mono ?_
  rintro e w2 ⟨rfl, hb⟩
  replace HT := Lib.hid (HT.out.later hb)
  replace hB := Lib.hid (hB.out.trans (hb.mono hB.out.size))
  clear hb G2
  go_wp2_with fail
  refine (G3 _ HT.out).out.mono ?_
  rintro e w3 ⟨rfl, hb⟩
  replace HT := Lib.hid (HT.out.later hb)
  replace hB := Lib.hid (hB.out.trans (hb.mono hB.out.size))
  clear hb G3
  go_wp2_with fail
  refine (G4 _ HT.out).out.mono ?_
  rintro e w4 ⟨rfl, hb⟩
  replace HT := Lib.hid (HT.out.later hb)
  replace hB := Lib.hid (hB.out.trans (hb.mono hB.out.size))
  clear hb G4
  go_wp2_with fail
  refine (G5 _ HT.out).out.mono ?_
  rintro e w5 ⟨rfl, hb⟩
  replace HT := Lib.hid (HT.out.later hb)
  replace hB := Lib.hid (hB.out.trans (hb.mono hB.out.size))
  clear hb G5
  go_wp2_with fail
  refine (G6 _ HT.out).out.mono ?_
  rintro e w6 ⟨rfl, hb⟩
  replace HT := Lib.hid (HT.out.later hb)
  replace hB := Lib.hid (hB.out.trans (hb.mono hB.out.size))
  clear hb G6
  go_wp2_with fail
  refine (G7 _ HT.out).out.mono ?_
  rintro e w7 ⟨rfl, hb⟩
  replace HT := Lib.hid (HT.out.later hb)
  replace hB := Lib.hid (hB.out.trans (hb.mono hB.out.size))
  clear hb G7
  go_wp2_with fail
  refine (G8 _ HT.out).out.mono ?_
  rintro e w8 ⟨rfl, hb⟩
  replace HT := Lib.hid (HT.out.later hb)
  replace hB := Lib.hid (hB.out.trans (hb.mono hB.out.size))
  clear hb G8
  go_wp2_with fail
  refine (G9 _ HT.out).out.mono ?_
  rintro e w9 ⟨rfl, hb⟩
  replace HT := Lib.hid (HT.out.later hb)
  replace hB := Lib.hid (hB.out.trans (hb.mono hB.out.size))
  clear hb G9
  go_wp2_with fail
  refine (G10 _ HT.out).out.mono ?_
  rintro e w10 ⟨rfl, hb⟩
  replace HT := Lib.hid (HT.out.later hb)
  replace hB := Lib.hid (hB.out.trans (hb.mono hB.out.size))
  clear hb G10
  go_wp2_with fail
  refine (G11 _ HT.out).out.mono ?_
  rintro e w11 ⟨rfl, hb⟩
  replace HT := Lib.hid (HT.out.later hb)
  replace hB := Lib.hid (hB.out.trans (hb.mono hB.out.size))
  clear hb G11
  go_wp2_with fail
  refine (G12 _ HT.out).out.mono ?_
  rintro e w12 ⟨rfl, hb⟩
  replace HT := Lib.hid (HT.out.later hb)
  replace hB := Lib.hid (hB.out.trans (hb.mono hB.out.size))
  clear hb G12
  go_wp2_with fail
  refine (G13 _ HT.out).out.mono ?_
  rintro e w13 ⟨rfl, hb⟩
  replace HT := Lib.hid (HT.out.later hb)
  replace hB := Lib.hid (hB.out.trans (hb.mono hB.out.size))
  clear hb G13
  go_wp2_with fail
  refine (G14 _ HT.out).out.mono ?_
  rintro e w14 ⟨rfl, hb⟩
  replace HT := Lib.hid (HT.out.later hb)
  replace hB := Lib.hid (hB.out.trans (hb.mono hB.out.size))
  clear hb G14
  go_wp2
  go_ret
  exact ⟨rfl, hB.out⟩

set_option maxRecDepth 100000 in
set_option maxHeartbeats 8000000 in
theorem machine_lt_b (x y m0 d0 : Int) (s t sm df pr q r : List UInt8) (hx0 : -2147483648 ≤ x) (hx1 : x ≤ 2147483647) (hy0 : -2147483648 ≤ y) (hy1 : y ≤ 2147483647) (ho : x < y) (hm : m0 < 0) (hyp : 0 < y) (hm0 : -2147483648 ≤ m0) (hd0 : -2147483648 ≤ d0) (hd1 : d0 ≤ 2147483648) (hyne : (y == 0) = false) (hy : ¬ y = 0) (htm : Int.tmod x y = m0) (htd : Int.tdiv x y = d0) (hxy0 : -4611686018427387904 ≤ x * y) (hxy1 : x * y ≤ 4611686018427387904) (w : World) (ht : Tab w)
    (H1 : ∀ W, Tab W → Calls Tryz.prog 12 #[] W fun e w' => e = .returned (.bool true) ∧ Below W.heap.size W w')
    (H2 : ∀ W, Tab W → Calls Tryz.prog 35 #[.int .i64 x] W fun e w' => e = .returned (txt s) ∧ Below W.heap.size W w')
    (H3 : ∀ W, Tab W → Calls Tryz.prog 35 #[.int .i64 y] W fun e w' => e = .returned (txt t) ∧ Below W.heap.size W w')
    (H4 : ∀ W, Tab W → Calls Tryz.prog 31 #[txt s] W fun e w' => e = .returned (.tuple #[.int .i64 x, .int .i64 0]) ∧ Below W.heap.size W w')
    (H5 : ∀ W, Tab W → Calls Tryz.prog 14 #[txt s, txt t] W fun e w' => e = .returned (.tuple #[txt sm, .int .i64 0]) ∧ Below W.heap.size W w')
    (H6 : ∀ W, Tab W → Calls Tryz.prog 16 #[txt s, txt t] W fun e w' => e = .returned (.tuple #[txt df, .int .i64 0]) ∧ Below W.heap.size W w')
    (H7 : ∀ W, Tab W → Calls Tryz.prog 15 #[txt s, txt t] W fun e w' => e = .returned (.tuple #[txt pr, .int .i64 0]) ∧ Below W.heap.size W w')
    (H8 : ∀ W, Tab W → Calls Tryz.prog 35 #[.int .i64 (x + y)] W fun e w' => e = .returned (txt sm) ∧ Below W.heap.size W w')
    (H9 : ∀ W, Tab W → Calls Tryz.prog 35 #[.int .i64 (x - y)] W fun e w' => e = .returned (txt df) ∧ Below W.heap.size W w')
    (H10 : ∀ W, Tab W → Calls Tryz.prog 35 #[.int .i64 (x * y)] W fun e w' => e = .returned (txt pr) ∧ Below W.heap.size W w')
    (H11 : ∀ W, Tab W → Calls Tryz.prog 18 #[txt s, txt t] W fun e w' => e = .returned (.int .i64 (-1)) ∧ Below W.heap.size W w')
    (H12 : ∀ W, Tab W → Calls Tryz.prog 17 #[txt s, txt t] W fun e w' => e = .returned (.tuple #[txt q, txt r, .int .i64 0]) ∧ Below W.heap.size W w')
    (H13 : ∀ W, Tab W → Calls Tryz.prog 35 #[.int .i64 (d0 - 1)] W fun e w' => e = .returned (txt q) ∧ Below W.heap.size W w')
    (H14 : ∀ W, Tab W → Calls Tryz.prog 35 #[.int .i64 (m0 + y)] W fun e w' => e = .returned (txt r) ∧ Below W.heap.size W w') :
    Calls Tryz.prog 10 #[.int .i32 x, .int .i32 y] w fun e w' => e = .returned (.bool true) ∧ Below w.heap.size w w' := by
  have HT := Lib.hid ht
  have hB := Lib.hid (Below.refl w.heap.size w)
  clear ht
  have hb1 : decide (m0 < 0) = true := decide_eq_true hm
  have hb2 : decide (0 < y) = true := decide_eq_true hyp
  have hb3 : ¬ m0 + y < 0 := by have := Int.lt_tmod_of_pos x hyp; omega
  have G1 := fun W (hW : Tab W) => Lib.hid (H1 W hW)
  have G2 := fun W (hW : Tab W) => Lib.hid (H2 W hW)
  have G3 := fun W (hW : Tab W) => Lib.hid (H3 W hW)
  have G4 := fun W (hW : Tab W) => Lib.hid (H4 W hW)
  have G5 := fun W (hW : Tab W) => Lib.hid (H5 W hW)
  have G6 := fun W (hW : Tab W) => Lib.hid (H6 W hW)
  have G7 := fun W (hW : Tab W) => Lib.hid (H7 W hW)
  have G8 := fun W (hW : Tab W) => Lib.hid (H8 W hW)
  have G9 := fun W (hW : Tab W) => Lib.hid (H9 W hW)
  have G10 := fun W (hW : Tab W) => Lib.hid (H10 W hW)
  have G11 := fun W (hW : Tab W) => Lib.hid (H11 W hW)
  have G12 := fun W (hW : Tab W) => Lib.hid (H12 W hW)
  have G13 := fun W (hW : Tab W) => Lib.hid (H13 W hW)
  have G14 := fun W (hW : Tab W) => Lib.hid (H14 W hW)
  clear H1 H2 H3 H4 H5 H6 H7 H8 H9 H10 H11 H12 H13 H14
  go_enter Tryz.func10, Tryz.ntmps10
  go_wp2_with fail
  refine (G1 _ HT.out).out.mono ?_
  rintro e w1 ⟨rfl, hb⟩
  replace HT := Lib.hid (HT.out.later hb)
  replace hB := Lib.hid (hB.out.trans (hb.mono hB.out.size))
  clear hb G1
  go_wp2_with fail
  refine (G2 _ HT.out).out.mono ?_
  rintro e w2 ⟨rfl, hb⟩
  replace HT := Lib.hid (HT.out.later hb)
  replace hB := Lib.hid (hB.out.trans (hb.mono hB.out.size))
  clear hb G2
  go_wp2_with fail
  refine (G3 _ HT.out).out.mono ?_
  rintro e w3 ⟨rfl, hb⟩
  replace HT := Lib.hid (HT.out.later hb)
  replace hB := Lib.hid (hB.out.trans (hb.mono hB.out.size))
  clear hb G3
  go_wp2_with fail
  refine (G4 _ HT.out).out.mono ?_
  rintro e w4 ⟨rfl, hb⟩
  replace HT := Lib.hid (HT.out.later hb)
  replace hB := Lib.hid (hB.out.trans (hb.mono hB.out.size))
  clear hb G4
  go_wp2_with fail
  refine (G5 _ HT.out).out.mono ?_
  rintro e w5 ⟨rfl, hb⟩
  replace HT := Lib.hid (HT.out.later hb)
  replace hB := Lib.hid (hB.out.trans (hb.mono hB.out.size))
  clear hb G5
  go_wp2_with fail
  refine (G6 _ HT.out).out.mono ?_
  rintro e w6 ⟨rfl, hb⟩
  replace HT := Lib.hid (HT.out.later hb)
  replace hB := Lib.hid (hB.out.trans (hb.mono hB.out.size))
  clear hb G6
  go_wp2_with fail
  refine (G7 _ HT.out).out.mono ?_
  rintro e w7 ⟨rfl, hb⟩
  replace HT := Lib.hid (HT.out.later hb)
  replace hB := Lib.hid (hB.out.trans (hb.mono hB.out.size))
  clear hb G7
  go_wp2_with fail
  refine (G8 _ HT.out).out.mono ?_
  rintro e w8 ⟨rfl, hb⟩
  replace HT := Lib.hid (HT.out.later hb)
  replace hB := Lib.hid (hB.out.trans (hb.mono hB.out.size))
  clear hb G8
  go_wp2_with fail
  refine (G9 _ HT.out).out.mono ?_
  rintro e w9 ⟨rfl, hb⟩
  replace HT := Lib.hid (HT.out.later hb)
  replace hB := Lib.hid (hB.out.trans (hb.mono hB.out.size))
  clear hb G9
  go_wp2_with fail
  refine (G10 _ HT.out).out.mono ?_
  rintro e w10 ⟨rfl, hb⟩
  replace HT := Lib.hid (HT.out.later hb)
  replace hB := Lib.hid (hB.out.trans (hb.mono hB.out.size))
  clear hb G10
  go_wp2_with fail
  refine (G11 _ HT.out).out.mono ?_
  rintro e w11 ⟨rfl, hb⟩
  replace HT := Lib.hid (HT.out.later hb)
  replace hB := Lib.hid (hB.out.trans (hb.mono hB.out.size))
  clear hb G11
  go_wp2_with fail
  refine (G12 _ HT.out).out.mono ?_
  rintro e w12 ⟨rfl, hb⟩
  replace HT := Lib.hid (HT.out.later hb)
  replace hB := Lib.hid (hB.out.trans (hb.mono hB.out.size))
  clear hb G12
  go_wp2_with fail
  refine (G13 _ HT.out).out.mono ?_
  rintro e w13 ⟨rfl, hb⟩
  replace HT := Lib.hid (HT.out.later hb)
  replace hB := Lib.hid (hB.out.trans (hb.mono hB.out.size))
  clear hb G13
  go_wp2_with fail
  refine (G14 _ HT.out).out.mono ?_
  rintro e w14 ⟨rfl, hb⟩
  replace HT := Lib.hid (HT.out.later hb)
  replace hB := Lib.hid (hB.out.trans (hb.mono hB.out.size))
  clear hb G14
  go_wp2
  go_ret
  exact ⟨rfl, hB.out⟩

set_option maxRecDepth 100000 in
set_option maxHeartbeats 8000000 in
theorem machine_lt_c (x y m0 d0 : Int) (s t sm df pr q r : List UInt8) (hx0 : -2147483648 ≤ x) (hx1 : x ≤ 2147483647) (hy0 : -2147483648 ≤ y) (hy1 : y ≤ 2147483647) (ho : x < y) (hm : m0 < 0) (hyp : y < 0) (hm0 : -2147483648 ≤ m0) (hd0 : -2147483648 ≤ d0) (hd1 : d0 ≤ 2147483648) (hyne : (y == 0) = false) (hy : ¬ y = 0) (htm : Int.tmod x y = m0) (htd : Int.tdiv x y = d0) (hxy0 : -4611686018427387904 ≤ x * y) (hxy1 : x * y ≤ 4611686018427387904) (w : World) (ht : Tab w)
    (H1 : ∀ W, Tab W → Calls Tryz.prog 12 #[] W fun e w' => e = .returned (.bool true) ∧ Below W.heap.size W w')
    (H2 : ∀ W, Tab W → Calls Tryz.prog 35 #[.int .i64 x] W fun e w' => e = .returned (txt s) ∧ Below W.heap.size W w')
    (H3 : ∀ W, Tab W → Calls Tryz.prog 35 #[.int .i64 y] W fun e w' => e = .returned (txt t) ∧ Below W.heap.size W w')
    (H4 : ∀ W, Tab W → Calls Tryz.prog 31 #[txt s] W fun e w' => e = .returned (.tuple #[.int .i64 x, .int .i64 0]) ∧ Below W.heap.size W w')
    (H5 : ∀ W, Tab W → Calls Tryz.prog 14 #[txt s, txt t] W fun e w' => e = .returned (.tuple #[txt sm, .int .i64 0]) ∧ Below W.heap.size W w')
    (H6 : ∀ W, Tab W → Calls Tryz.prog 16 #[txt s, txt t] W fun e w' => e = .returned (.tuple #[txt df, .int .i64 0]) ∧ Below W.heap.size W w')
    (H7 : ∀ W, Tab W → Calls Tryz.prog 15 #[txt s, txt t] W fun e w' => e = .returned (.tuple #[txt pr, .int .i64 0]) ∧ Below W.heap.size W w')
    (H8 : ∀ W, Tab W → Calls Tryz.prog 35 #[.int .i64 (x + y)] W fun e w' => e = .returned (txt sm) ∧ Below W.heap.size W w')
    (H9 : ∀ W, Tab W → Calls Tryz.prog 35 #[.int .i64 (x - y)] W fun e w' => e = .returned (txt df) ∧ Below W.heap.size W w')
    (H10 : ∀ W, Tab W → Calls Tryz.prog 35 #[.int .i64 (x * y)] W fun e w' => e = .returned (txt pr) ∧ Below W.heap.size W w')
    (H11 : ∀ W, Tab W → Calls Tryz.prog 18 #[txt s, txt t] W fun e w' => e = .returned (.int .i64 (-1)) ∧ Below W.heap.size W w')
    (H12 : ∀ W, Tab W → Calls Tryz.prog 17 #[txt s, txt t] W fun e w' => e = .returned (.tuple #[txt q, txt r, .int .i64 0]) ∧ Below W.heap.size W w')
    (H13 : ∀ W, Tab W → Calls Tryz.prog 35 #[.int .i64 (d0 + 1)] W fun e w' => e = .returned (txt q) ∧ Below W.heap.size W w')
    (H14 : ∀ W, Tab W → Calls Tryz.prog 35 #[.int .i64 (m0 - y)] W fun e w' => e = .returned (txt r) ∧ Below W.heap.size W w') :
    Calls Tryz.prog 10 #[.int .i32 x, .int .i32 y] w fun e w' => e = .returned (.bool true) ∧ Below w.heap.size w w' := by
  have HT := Lib.hid ht
  have hB := Lib.hid (Below.refl w.heap.size w)
  clear ht
  have hb1 : decide (m0 < 0) = true := decide_eq_true hm
  have hb2 : decide (0 < y) = false := decide_eq_false (by omega)
  have G1 := fun W (hW : Tab W) => Lib.hid (H1 W hW)
  have G2 := fun W (hW : Tab W) => Lib.hid (H2 W hW)
  have G3 := fun W (hW : Tab W) => Lib.hid (H3 W hW)
  have G4 := fun W (hW : Tab W) => Lib.hid (H4 W hW)
  have G5 := fun W (hW : Tab W) => Lib.hid (H5 W hW)
  have G6 := fun W (hW : Tab W) => Lib.hid (H6 W hW)
  have G7 := fun W (hW : Tab W) => Lib.hid (H7 W hW)
  have G8 := fun W (hW : Tab W) => Lib.hid (H8 W hW)
  have G9 := fun W (hW : Tab W) => Lib.hid (H9 W hW)
  have G10 := fun W (hW : Tab W) => Lib.hid (H10 W hW)
  have G11 := fun W (hW : Tab W) => Lib.hid (H11 W hW)
  have G12 := fun W (hW : Tab W) => Lib.hid (H12 W hW)
  have G13 := fun W (hW : Tab W) => Lib.hid (H13 W hW)
  have G14 := fun W (hW : Tab W) => Lib.hid (H14 W hW)
  clear H1 H2 H3 H4 H5 H6 H7 H8 H9 H10 H11 H12 H13 H14
  go_enter Tryz.func10, Tryz.ntmps10
  go_wp2_with fail
  refine (G1 _ HT.out).out.mono ?_
  rintro e w1 ⟨rfl, hb⟩
  replace HT := Lib.hid (HT.out.later hb)
  replace hB := Lib.hid (hB.out.trans (hb.mono hB.out.size))
  clear hb G1
  go_wp2_with fail
  refine (G2 _ HT.out).out.mono ?_
  rintro e w2 ⟨rfl, hb⟩
  replace HT := Lib.hid (HT.out.later hb)
  replace hB := Lib.hid (hB.out.trans (hb.mono hB.out.size))
  clear hb G2
  go_wp2_with fail
  refine (G3 _ HT.out).out.mono ?_
  rintro e w3 ⟨rfl, hb⟩
  replace HT := Lib.hid (HT.out.later hb)
  replace hB := Lib.hid (hB.out.trans (hb.mono hB.out.size))
  clear hb G3
  go_wp2_with fail
  refine (G4 _ HT.out).out.mono ?_
  rintro e w4 ⟨rfl, hb⟩
  replace HT := Lib.hid (HT.out.later hb)
  replace hB := Lib.hid (hB.out.trans (hb.mono hB.out.size))
  clear hb G4
  go_wp2_with fail
  refine (G5 _ HT.out).out.mono ?_
  rintro e w5 ⟨rfl, hb⟩
  replace HT := Lib.hid (HT.out.later hb)
  replace hB := Lib.hid (hB.out.trans (hb.mono hB.out.size))
  clear hb G5
  go_wp2_with fail
  refine (G6 _ HT.out).out.mono ?_
  rintro e w6 ⟨rfl, hb⟩
  replace HT := Lib.hid (HT.out.later hb)
  replace hB := Lib.hid (hB.out.trans (hb.mono hB.out.size))
  clear hb G6
  go_wp2_with fail
  refine (G7 _ HT.out).out.mono ?_
  rintro e w7 ⟨rfl, hb⟩
  replace HT := Lib.hid (HT.out.later hb)
  replace hB := Lib.hid (hB.out.trans (hb.mono hB.out.size))
  clear hb G7
  go_wp2_with fail
  refine (G8 _ HT.out).out.mono ?_
  rintro e w8 ⟨rfl, hb⟩
  replace HT := Lib.hid (HT.out.later hb)
  replace hB := Lib.hid (hB.out.trans (hb.mono hB.out.size))
  clear hb G8
  go_wp2_with fail
  refine (G9 _ HT.out).out.mono ?_
  rintro e w9 ⟨rfl, hb⟩
  replace HT := Lib.hid (HT.out.later hb)
  replace hB := Lib.hid (hB.out.trans (hb.mono hB.out.size))
  clear hb G9
  go_wp2_with fail
  refine (G10 _ HT.out).out.mono ?_
  rintro e w10 ⟨rfl, hb⟩
  replace HT := Lib.hid (HT.out.later hb)
  replace hB := Lib.hid (hB.out.trans (hb.mono hB.out.size))
  clear hb G10
  go_wp2_with fail
  refine (G11 _ HT.out).out.mono ?_
  rintro e w11 ⟨rfl, hb⟩
  replace HT := Lib.hid (HT.out.later hb)
  replace hB := Lib.hid (hB.out.trans (hb.mono hB.out.size))
  clear hb G11
  go_wp2_with fail
  refine (G12 _ HT.out).out.mono ?_
  rintro e w12 ⟨rfl, hb⟩
  replace HT := Lib.hid (HT.out.later hb)
  replace hB := Lib.hid (hB.out.trans (hb.mono hB.out.size))
  clear hb G12
  go_wp2_with fail
  refine (G13 _ HT.out).out.mono ?_
  rintro e w13 ⟨rfl, hb⟩
  replace HT := Lib.hid (HT.out.later hb)
  replace hB := Lib.hid (hB.out.trans (hb.mono hB.out.size))
  clear hb G13
  go_wp2_with fail
  refine (G14 _ HT.out).out.mono ?_
  rintro e w14 ⟨rfl, hb⟩
  replace HT := Lib.hid (HT.out.later hb)
  replace hB := Lib.hid (hB.out.trans (hb.mono hB.out.size))
  clear hb G14
  go_wp2
  go_ret
  exact ⟨rfl, hB.out⟩

set_option maxRecDepth 100000 in
set_option maxHeartbeats 8000000 in
theorem machine_gt_a (x y m0 d0 : Int) (s t sm df pr q r : List UInt8) (hx0 : -2147483648 ≤ x) (hx1 : x ≤ 2147483647) (hy0 : -2147483648 ≤ y) (hy1 : y ≤ 2147483647) (ho : y < x) (hm : 0 ≤ m0) (hm1 : m0 ≤ 2147483647) (hd0 : -2147483648 ≤ d0) (hd1 : d0 ≤ 2147483648) (hyne : (y == 0) = false) (hy : ¬ y = 0) (htm : Int.tmod x y = m0) (htd : Int.tdiv x y = d0) (hxy0 : -4611686018427387904 ≤ x * y) (hxy1 : x * y ≤ 4611686018427387904) (w : World) (ht : Tab w)
    (H1 : ∀ W, Tab W → Calls Tryz.prog 12 #[] W fun e w' => e = .returned (.bool true) ∧ Below W.heap.size W w')
    (H2 : ∀ W, Tab W → Calls Tryz.prog 35 #[.int .i64 x] W fun e w' => e = .returned (txt s) ∧ Below W.heap.size W w')
    (H3 : ∀ W, Tab W → Calls Tryz.prog 35 #[.int .i64 y] W fun e w' => e = .returned (txt t) ∧ Below W.heap.size W w')
    (H4 : ∀ W, Tab W → Calls Tryz.prog 31 #[txt s] W fun e w' => e = .returned (.tuple #[.int .i64 x, .int .i64 0]) ∧ Below W.heap.size W w')
    (H5 : ∀ W, Tab W → Calls Tryz.prog 14 #[txt s, txt t] W fun e w' => e = .returned (.tuple #[txt sm, .int .i64 0]) ∧ Below W.heap.size W w')
    (H6 : ∀ W, Tab W → Calls Tryz.prog 16 #[txt s, txt t] W fun e w' => e = .returned (.tuple #[txt df, .int .i64 0]) ∧ Below W.heap.size W w')
    (H7 : ∀ W, Tab W → Calls Tryz.prog 15 #[txt s, txt t] W fun e w' => e = .returned (.tuple #[txt pr, .int .i64 0]) ∧ Below W.heap.size W w')
    (H8 : ∀ W, Tab W → Calls Tryz.prog 35 #[.int .i64 (x + y)] W fun e w' => e = .returned (txt sm) ∧ Below W.heap.size W w')
    (H9 : ∀ W, Tab W → Calls Tryz.prog 35 #[.int .i64 (x - y)] W fun e w' => e = .returned (txt df) ∧ Below W.heap.size W w')
    (H10 : ∀ W, Tab W → Calls Tryz.prog 35 #[.int .i64 (x * y)] W fun e w' => e = .returned (txt pr) ∧ Below W.heap.size W w')
    (H11 : ∀ W, Tab W → Calls Tryz.prog 18 #[txt s, txt t] W fun e w' => e = .returned (.int .i64 1) ∧ Below W.heap.size W w')
    (H12 : ∀ W, Tab W → Calls Tryz.prog 17 #[txt s, txt t] W fun e w' => e = .returned (.tuple #[txt q, txt r, .int .i64 0]) ∧ Below W.heap.size W w')
    (H13 : ∀ W, Tab W → Calls Tryz.prog 35 #[.int .i64 d0] W fun e w' => e = .returned (txt q) ∧ Below W.heap.size W w')
    (H14 : ∀ W, Tab W → Calls Tryz.prog 35 #[.int .i64 m0] W fun e w' => e = .returned (txt r) ∧ Below W.heap.size W w') :
    Calls Tryz.prog 10 #[.int .i32 x, .int .i32 y] w fun e w' => e = .returned (.bool true) ∧ Below w.heap.size w w' := by
  have HT := Lib.hid ht
  have hB := Lib.hid (Below.refl w.heap.size w)
  clear ht
  have G1 := fun W (hW : Tab W) => Lib.hid (H1 W hW)
  have G2 := fun W (hW : Tab W) => Lib.hid (H2 W hW)
  have G3 := fun W (hW : Tab W) => Lib.hid (H3 W hW)
  have G4 := fun W (hW : Tab W) => Lib.hid (H4 W hW)
  have G5 := fun W (hW : Tab W) => Lib.hid (H5 W hW)
  have G6 := fun W (hW : Tab W) => Lib.hid (H6 W hW)
  have G7 := fun W (hW : Tab W) => Lib.hid (H7 W hW)
  have G8 := fun W (hW : Tab W) => Lib.hid (H8 W hW)
  have G9 := fun W (hW : Tab W) => Lib.hid (H9 W hW)
  have G10 := fun W (hW : Tab W) => Lib.hid (H10 W hW)
  have G11 := fun W (hW : Tab W) => Lib.hid (H11 W hW)
  have G12 := fun W (hW : Tab W) => Lib.hid (H12 W hW)
  have G13 := fun W (hW : Tab W) => Lib.hid (H13 W hW)
  have G14 := fun W (hW : Tab W) => Lib.hid (H14 W hW)
  clear H1 H2 H3 H4 H5 H6 H7 H8 H9 H10 H11 H12 H13 H14
  go_enter Tryz.func10, Tryz.ntmps10
  go_wp2_with fail
  refine (G1 _ HT.out).out.mono ?_
  rintro e w1 ⟨rfl, hb⟩
  replace HT := Lib.hid (HT.out.later hb)
  replace hB := Lib.hid (hB.out.trans (hb.mono hB.out.size))
  clear hb G1
  go_wp2_with fail
  refine (G2 _ HT.out).out.mono ?_
  rintro e w2 ⟨rfl, hb⟩
  replace HT := Lib.hid (HT.out.later hb)
  replace hB := Lib.hid (hB.out.trans (hb.mono hB.out.size))
  clear hb G2
  go_wp2_with fail
  refine (G3 _ HT.out).out.mono ?_
  rintro e w3 ⟨rfl, hb⟩
  replace HT := Lib.hid (HT.out.later hb)
  replace hB := Lib.hid (hB.out.trans (hb.mono hB.out.size))
  clear hb G3
  go_wp2_with fail
  refine (G4 _ HT.out).out.mono ?_
  rintro e w4 ⟨rfl, hb⟩
  replace HT := Lib.hid (HT.out.later hb)
  replace hB := Lib.hid (hB.out.trans (hb.mono hB.out.size))
  clear hb G4
  go_wp2_with fail
  refine (G5 _ HT.out).out.mono ?_
  rintro e w5 ⟨rfl, hb⟩
  replace HT := Lib.hid (HT.out.later hb)
  replace hB := Lib.hid (hB.out.trans (hb.mono hB.out.size))
  clear hb G5
  go_wp2_with fail
  refine (G6 _ HT.out).out.mono ?_
  rintro e w6 ⟨rfl, hb⟩
  replace HT := Lib.hid (HT.out.later hb)
  replace hB := Lib.hid (hB.out.trans (hb.mono hB.out.size))
  clear hb G6
  go_wp2_with fail
  refine (G7 _ HT.out).out.mono ?_
  rintro e w7 ⟨rfl, hb⟩
  replace HT := Lib.hid (HT.out.later hb)
  replace hB := Lib.hid (hB.out.trans (hb.mono hB.out.size))
  clear hb G7
  go_wp2_with fail
  refine (G8 _ HT.out).out.mono ?_
  rintro e w8 ⟨rfl, hb⟩
  replace HT := Lib.hid (HT.out.later hb)
  replace hB := Lib.hid (hB.out.trans (hb.mono hB.out.size))
  clear hb G8
  go_wp2_with fail
  refine (G9 _ HT.out).out.mono ?_
  rintro e w9 ⟨rfl, hb⟩
  replace HT := Lib.hid (HT.out.later hb)
  replace hB := Lib.hid (hB.out.trans (hb.mono hB.out.size))
  clear hb G9
  go_wp2_with fail
  refine (G10 _ HT.out).out.mono ?_
  rintro e w10 ⟨rfl, hb⟩
  replace HT := Lib.hid (HT.out.later hb)
  replace hB := Lib.hid (hB.out.trans (hb.mono hB.out.size))
  clear hb G10
  go_wp2_with fail
  refine (G11 _ HT.out).out.mono ?_
  rintro e w11 ⟨rfl, hb⟩
  replace HT := Lib.hid (HT.out.later hb)
  replace hB := Lib.hid (hB.out.trans (hb.mono hB.out.size))
  clear hb G11
  go_wp2_with fail
  refine (G12 _ HT.out).out.mono ?_
  rintro e w12 ⟨rfl, hb⟩
  replace HT := Lib.hid (HT.out.later hb)
  replace hB := Lib.hid (hB.out.trans (hb.mono hB.out.size))
  clear hb G12
  go_wp2_with fail
  refine (G13 _ HT.out).out.mono ?_
  rintro e w13 ⟨rfl, hb⟩
  replace HT := Lib.hid (HT.out.later hb)
  replace hB := Lib.hid (hB.out.trans (hb.mono hB.out.size))
  clear hb G13
  go_wp2_with fail
  refine (G14 _ HT.out).out.mono ?_
  rintro e w14 ⟨rfl, hb⟩
  replace HT := Lib.hid (HT.out.later hb)
  replace hB := Lib.hid (hB.out.trans (hb.mono hB.out.size))
  clear hb G14
  go_wp2
  go_ret
  exact ⟨rfl, hB.out⟩

set_option maxRecDepth 100000 in
set_option maxHeartbeats 8000000 in
theorem machine_gt_b (x y m0 d0 : Int) (s t sm df pr q r : List UInt8) (hx0 : -2147483648 ≤ x) (hx1 : x ≤ 2147483647) (hy0 : -2147483648 ≤ y) (hy1 : y ≤ 2147483647) (ho : y < x) (hm : m0 < 0) (hyp : 0 < y) (hm0 : -2147483648 ≤ m0) (hd0 : -2147483648 ≤ d0) (hd1 : d0 ≤ 2147483648) (hyne : (y == 0) = false) (hy : ¬ y = 0) (htm : Int.tmod x y = m0) (htd : Int.tdiv x y = d0) (hxy0 : -4611686018427387904 ≤ x * y) (hxy1 : x * y ≤ 4611686018427387904) (w : World) (ht : Tab w)
    (H1 : ∀ W, Tab W → Calls Tryz.prog 12 #[] W fun e w' => e = .returned (.bool true) ∧ Below W.heap.size W w')
    (H2 : ∀ W, Tab W → Calls Tryz.prog 35 #[.int .i64 x] W fun e w' => e = .returned (txt s) ∧ Below W.heap.size W w')
    (H3 : ∀ W, Tab W → Calls Tryz.prog 35 #[.int .i64 y] W fun e w' => e = .returned (txt t) ∧ Below W.heap.size W w')
    (H4 : ∀ W, Tab W → Calls Tryz.prog 31 #[txt s] W fun e w' => e = .returned (.tuple #[.int .i64 x, .int .i64 0]) ∧ Below W.heap.size W w')
    (H5 : ∀ W, Tab W → Calls Tryz.prog 14 #[txt s, txt t] W fun e w' => e = .returned (.tuple #[txt sm, .int .i64 0]) ∧ Below W.heap.size W w')
    (H6 : ∀ W, Tab W → Calls Tryz.prog 16 #[txt s, txt t] W fun e w' => e = .returned (.tuple #[txt df, .int .i64 0]) ∧ Below W.heap.size W w')
    (H7 : ∀ W, Tab W → Calls Tryz.prog 15 #[txt s, txt t] W fun e w' => e = .returned (.tuple #[txt pr, .int .i64 0]) ∧ Below W.heap.size W w')
    (H8 : ∀ W, Tab W → Calls Tryz.prog 35 #[.int .i64 (x + y)] W fun e w' => e = .returned (txt sm) ∧ Below W.heap.size W w')
    (H9 : ∀ W, Tab W → Calls Tryz.prog 35 #[.int .i64 (x - y)] W fun e w' => e = .returned (txt df) ∧ Below W.heap.size W w')
    (H10 : ∀ W, Tab W → Calls Tryz.prog 35 #[.int .i64 (x * y)] W fun e w' => e = .returned (txt pr) ∧ Below W.heap.size W w')
    (H11 : ∀ W, Tab W → Calls Tryz.prog 18 #[txt s, txt t] W fun e w' => e = .returned (.int .i64 1) ∧ Below W.heap.size W w')
    (H12 : ∀ W, Tab W → Calls Tryz.prog 17 #[txt s, txt t] W fun e w' => e = .returned (.tuple #[txt q, txt r, .int .i64 0]) ∧ Below W.heap.size W w')
    (H13 : ∀ W, Tab W → Calls Tryz.prog 35 #[.int .i64 (d0 - 1)] W fun e w' => e = .returned (txt q) ∧ Below W.heap.size W w')
    (H14 : ∀ W, Tab W → Calls Tryz.prog 35 #[.int .i64 (m0 + y)] W fun e w' => e = .returned (txt r) ∧ Below W.heap.size W w') :
    Calls Tryz.prog 10 #[.int .i32 x, .int .i32 y] w fun e w' => e = .returned (.bool true) ∧ Below w.heap.size w w' := by
  have HT := Lib.hid ht
  have hB := Lib.hid (Below.refl w.heap.size w)
  clear ht
  have hb1 : decide (m0 < 0) = true := decide_eq_true hm
  have hb2 : decide (0 < y) = true := decide_eq_true hyp
  have hb3 : ¬ m0 + y < 0 := by have := Int.lt_tmod_of_pos x hyp; omega
  have G1 := fun W (hW : Tab W) => Lib.hid (H1 W hW)
  have G2 := fun W (hW : Tab W) => Lib.hid (H2 W hW)
  have G3 := fun W (hW : Tab W) => Lib.hid (H3 W hW)
  have G4 := fun W (hW : Tab W) => Lib.hid (H4 W hW)
  have G5 := fun W (hW : Tab W) => Lib.hid (H5 W hW)
  have G6 := fun W (hW : Tab W) => Lib.hid (H6 W hW)
  have G7 := fun W (hW : Tab W) => Lib.hid (H7 W hW)
  have G8 := fun W (hW : Tab W) => Lib.hid (H8 W hW)
  have G9 := fun W (hW : Tab W) => Lib.hid (H9 W hW)
  have G10 := fun W (hW : Tab W) => Lib.hid (H10 W hW)
  have G11 := fun W (hW : Tab W) => Lib.hid (H11 W hW)
  have G12 := fun W (hW : Tab W) => Lib.hid (H12 W hW)
  have G13 := fun W (hW : Tab W) => Lib.hid (H13 W hW)
  have G14 := fun W (hW : Tab W) => Lib.hid (H14 W hW)
  clear H1 H2 H3 H4 H5 H6 H7 H8 H9 H10 H11 H12 H13 H14
  go_enter Tryz.func10, Tryz.ntmps10
  go_wp2_with fail
  refine (G1 _ HT.out).out.mono ?_
  rintro e w1 ⟨rfl, hb⟩
  replace HT := Lib.hid (HT.out.later hb)
  replace hB := Lib.hid (hB.out.trans (hb.mono hB.out.size))
  clear hb G1
  go_wp2_with fail
  refine (G2 _ HT.out).out.mono ?_
  rintro e w2 ⟨rfl, hb⟩
  replace HT := Lib.hid (HT.out.later hb)
  replace hB := Lib.hid (hB.out.trans (hb.mono hB.out.size))
  clear hb G2
  go_wp2_with fail
  refine (G3 _ HT.out).out.mono ?_
  rintro e w3 ⟨rfl, hb⟩
  replace HT := Lib.hid (HT.out.later hb)
  replace hB := Lib.hid (hB.out.trans (hb.mono hB.out.size))
  clear hb G3
  go_wp2_with fail
  refine (G4 _ HT.out).out.mono ?_
  rintro e w4 ⟨rfl, hb⟩
  replace HT := Lib.hid (HT.out.later hb)
  replace hB := Lib.hid (hB.out.trans (hb.mono hB.out.size))
  clear hb G4
  go_wp2_with fail
  refine (G5 _ HT.out).out.mono ?_
  rintro e w5 ⟨rfl, hb⟩
  replace HT := Lib.hid (HT.out.later hb)
  replace hB := Lib.hid (hB.out.trans (hb.mono hB.out.size))
  clear hb G5
  go_wp2_with fail
  refine (G6 _ HT.out).out.mono ?_
  rintro e w6 ⟨rfl, hb⟩
  replace HT := Lib.hid (HT.out.later hb)
  replace hB := Lib.hid (hB.out.trans (hb.mono hB.out.size))
  clear hb G6
  go_wp2_with fail
  refine (G7 _ HT.out).out.mono ?_
  rintro e w7 ⟨rfl, hb⟩
  replace HT := Lib.hid (HT.out.later hb)
  replace hB := Lib.hid (hB.out.trans (hb.mono hB.out.size))
  clear hb G7
  go_wp2_with fail
  refine (G8 _ HT.out).out.mono ?_
  rintro e w8 ⟨rfl, hb⟩
  replace HT := Lib.hid (HT.out.later hb)
  replace hB := Lib.hid (hB.out.trans (hb.mono hB.out.size))
  clear hb G8
  go_wp2_with fail
  refine (G9 _ HT.out).out.mono ?_
  rintro e w9 ⟨rfl, hb⟩
  replace HT := Lib.hid (HT.out.later hb)
  replace hB := Lib.hid (hB.out.trans (hb.mono hB.out.size))
  clear hb G9
  go_wp2_with fail
  refine (G10 _ HT.out).out.mono ?_
  rintro e w10 ⟨rfl, hb⟩
  replace HT := Lib.hid (HT.out.later hb)
  replace hB := Lib.hid (hB.out.trans (hb.mono hB.out.size))
  clear hb G10
  go_wp2_with fail
  refine (G11 _ HT.out).out.mono ?_
  rintro e w11 ⟨rfl, hb⟩
  replace HT := Lib.hid (HT.out.later hb)
  replace hB := Lib.hid (hB.out.trans (hb.mono hB.out.size))
  clear hb G11
  go_wp2_with fail
  refine (G12 _ HT.out).out.mono ?_
  rintro e w12 ⟨rfl, hb⟩
  replace HT := Lib.hid (HT.out.later hb)
  replace hB := Lib.hid (hB.out.trans (hb.mono hB.out.size))
  clear hb G12
  go_wp2_with fail
  refine (G13 _ HT.out).out.mono ?_
  rintro e w13 ⟨rfl, hb⟩
  replace HT := Lib.hid (HT.out.later hb)
  replace hB := Lib.hid (hB.out.trans (hb.mono hB.out.size))
  clear hb G13
  go_wp2_with fail
  refine (G14 _ HT.out).out.mono ?_
  rintro e w14 ⟨rfl, hb⟩
  replace HT := Lib.hid (HT.out.later hb)
  replace hB := Lib.hid (hB.out.trans (hb.mono hB.out.size))
  clear hb G14
  go_wp2
  go_ret
  exact ⟨rfl, hB.out⟩

set_option maxRecDepth 100000 in
set_option maxHeartbeats 8000000 in
theorem machine_gt_c (x y m0 d0 : Int) (s t sm df pr q r : List UInt8) (hx0 : -2147483648 ≤ x) (hx1 : x ≤ 2147483647) (hy0 : -2147483648 ≤ y) (hy1 : y ≤ 2147483647) (ho : y < x) (hm : m0 < 0) (hyp : y < 0) (hm0 : -2147483648 ≤ m0) (hd0 : -2147483648 ≤ d0) (hd1 : d0 ≤ 2147483648) (hyne : (y == 0) = false) (hy : ¬ y = 0) (htm : Int.tmod x y = m0) (htd : Int.tdiv x y = d0) (hxy0 : -4611686018427387904 ≤ x * y) (hxy1 : x * y ≤ 4611686018427387904) (w : World) (ht : Tab w)
    (H1 : ∀ W, Tab W → Calls Tryz.prog 12 #[] W fun e w' => e = .returned (.bool true) ∧ Below W.heap.size W w')
    (H2 : ∀ W, Tab W → Calls Tryz.prog 35 #[.int .i64 x] W fun e w' => e = .returned (txt s) ∧ Below W.heap.size W w')
    (H3 : ∀ W, Tab W → Calls Tryz.prog 35 #[.int .i64 y] W fun e w' => e = .returned (txt t) ∧ Below W.heap.size W w')
    (H4 : ∀ W, Tab W → Calls Tryz.prog 31 #[txt s] W fun e w' => e = .returned (.tuple #[.int .i64 x, .int .i64 0]) ∧ Below W.heap.size W w')
    (H5 : ∀ W, Tab W → Calls Tryz.prog 14 #[txt s, txt t] W fun e w' => e = .returned (.tuple #[txt sm, .int .i64 0]) ∧ Below W.heap.size W w')
    (H6 : ∀ W, Tab W → Calls Tryz.prog 16 #[txt s, txt t] W fun e w' => e = .returned (.tuple #[txt df, .int .i64 0]) ∧ Below W.heap.size W w')
    (H7 : ∀ W, Tab W → Calls Tryz.prog 15 #[txt s, txt t] W fun e w' => e = .returned (.tuple #[txt pr, .int .i64 0]) ∧ Below W.heap.size W w')
    (H8 : ∀ W, Tab W → Calls Tryz.prog 35 #[.int .i64 (x + y)] W fun e w' => e = .returned (txt sm) ∧ Below W.heap.size W w')
    (H9 : ∀ W, Tab W → Calls Tryz.prog 35 #[.int .i64 (x - y)] W fun e w' => e = .returned (txt df) ∧ Below W.heap.size W w')
    (H10 : ∀ W, Tab W → Calls Tryz.prog 35 #[.int .i64 (x * y)] W fun e w' => e = .returned (txt pr) ∧ Below W.heap.size W w')
    (H11 : ∀ W, Tab W → Calls Tryz.prog 18 #[txt s, txt t] W fun e w' => e = .returned (.int .i64 1) ∧ Below W.heap.size W w')
    (H12 : ∀ W, Tab W → Calls Tryz.prog 17 #[txt s, txt t] W fun e w' => e = .returned (.tuple #[txt q, txt r, .int .i64 0]) ∧ Below W.heap.size W w')
    (H13 : ∀ W, Tab W → Calls Tryz.prog 35 #[.int .i64 (d0 + 1)] W fun e w' => e = .returned (txt q) ∧ Below W.heap.size W w')
    (H14 : ∀ W, Tab W → Calls Tryz.prog 35 #[.int .i64 (m0 - y)] W fun e w' => e = .returned (txt r) ∧ Below W.heap.size W w') :
    Calls Tryz.prog 10 #[.int .i32 x, .int .i32 y] w fun e w' => e = .returned (.bool true) ∧ Below w.heap.size w w' := by
  have HT := Lib.hid ht
  have hB := Lib.hid (Below.refl w.heap.size w)
  clear ht
  have hb1 : decide (m0 < 0) = true := decide_eq_true hm
  have hb2 : decide (0 < y) = false := decide_eq_false (by omega)
  have G1 := fun W (hW : Tab W) => Lib.hid (H1 W hW)
  have G2 := fun W (hW : Tab W) => Lib.hid (H2 W hW)
  have G3 := fun W (hW : Tab W) => Lib.hid (H3 W hW)
  have G4 := fun W (hW : Tab W) => Lib.hid (H4 W hW)
  have G5 := fun W (hW : Tab W) => Lib.hid (H5 W hW)
  have G6 := fun W (hW : Tab W) => Lib.hid (H6 W hW)
  have G7 := fun W (hW : Tab W) => Lib.hid (H7 W hW)
  have G8 := fun W (hW : Tab W) => Lib.hid (H8 W hW)
  have G9 := fun W (hW : Tab W) => Lib.hid (H9 W hW)
  have G10 := fun W (hW : Tab W) => Lib.hid (H10 W hW)
  have G11 := fun W (hW : Tab W) => Lib.hid (H11 W hW)
  have G12 := fun W (hW : Tab W) => Lib.hid (H12 W hW)
  have G13 := fun W (hW : Tab W) => Lib.hid (H13 W hW)
  have G14 := fun W (hW : Tab W) => Lib.hid (H14 W hW)
  clear H1 H2 H3 H4 H5 H6 H7 H8 H9 H10 H11 H12 H13 H14
  go_enter Tryz.func10, Tryz.ntmps10
  go_wp2_with fail
  refine (G1 _ HT.out).out.mono ?_
  rintro e w1 ⟨rfl, hb⟩
  replace HT := Lib.hid (HT.out.later hb)
  replace hB := Lib.hid (hB.out.trans (hb.mono hB.out.size))
  clear hb G1
  go_wp2_with fail
  refine (G2 _ HT.out).out.mono ?_
  rintro e w2 ⟨rfl, hb⟩
  replace HT := Lib.hid (HT.out.later hb)
  replace hB := Lib.hid (hB.out.trans (hb.mono hB.out.size))
  clear hb G2
  go_wp2_with fail
  refine (G3 _ HT.out).out.mono ?_
  rintro e w3 ⟨rfl, hb⟩
  replace HT := Lib.hid (HT.out.later hb)
  replace hB := Lib.hid (hB.out.trans (hb.mono hB.out.size))
  clear hb G3
  go_wp2_with fail
  refine (G4 _ HT.out).out.mono ?_
  rintro e w4 ⟨rfl, hb⟩
  replace HT := Lib.hid (HT.out.later hb)
  replace hB := Lib.hid (hB.out.trans (hb.mono hB.out.size))
  clear hb G4
  go_wp2_with fail
  refine (G5 _ HT.out).out.mono ?_
  rintro e w5 ⟨rfl, hb⟩
  replace HT := Lib.hid (HT.out.later hb)
  replace hB := Lib.hid (hB.out.trans (hb.mono hB.out.size))
  clear hb G5
  go_wp2_with fail
  refine (G6 _ HT.out).out.mono ?_
  rintro e w6 ⟨rfl, hb⟩
  replace HT := Lib.hid (HT.out.later hb)
  replace hB := Lib.hid (hB.out.trans (hb.mono hB.out.size))
  clear hb G6
  go_wp2_with fail
  refine (G7 _ HT.out).out.mono ?_
  rintro e w7 ⟨rfl, hb⟩
  replace HT := Lib.hid (HT.out.later hb)
  replace hB := Lib.hid (hB.out.trans (hb.mono hB.out.size))
  clear hb G7
  go_wp2_with fail
  refine (G8 _ HT.out).out.mono ?_
  rintro e w8 ⟨rfl, hb⟩
  replace HT := Lib.hid (HT.out.later hb)
  replace hB := Lib.hid (hB.out.trans (hb.mono hB.out.size))
  clear hb G8
  go_wp2_with fail
  refine (G9 _ HT.out).out.mono ?_
  rintro e w9 ⟨rfl, hb⟩
  replace HT := Lib.hid (HT.out.later hb)
  replace hB := Lib.hid (hB.out.trans (hb.mono hB.out.size))
  clear hb G9
  go_wp2_with fail
  refine (G10 _ HT.out).out.mono ?_
  rintro e w10 ⟨rfl, hb⟩
  replace HT := Lib.hid (HT.out.later hb)
  replace hB := Lib.hid (hB.out.trans (hb.mono hB.out.size))
  clear hb G10
  go_wp2_with fail
  refine (G11 _ HT.out).out.mono ?_
  rintro e w11 ⟨rfl, hb⟩
  replace HT := Lib.hid (HT.out.later hb)
  replace hB := Lib.hid (hB.out.trans (hb.mono hB.out.size))
  clear hb G11
  go_wp2_with fail
  refine (G12 _ HT.out).out.mono ?_
  rintro e w12 ⟨rfl, hb⟩
  replace HT := Lib.hid (HT.out.later hb)
  replace hB := Lib.hid (hB.out.trans (hb.mono hB.out.size))
  clear hb G12
  go_wp2_with fail
  refine (G13 _ HT.out).out.mono ?_
  rintro e w13 ⟨rfl, hb⟩
  replace HT := Lib.hid (HT.out.later hb)
  replace hB := Lib.hid (hB.out.trans (hb.mono hB.out.size))
  clear hb G13
  go_wp2_with fail
  refine (G14 _ HT.out).out.mono ?_
  rintro e w14 ⟨rfl, hb⟩
  replace HT := Lib.hid (HT.out.later hb)
  replace hB := Lib.hid (hB.out.trans (hb.mono hB.out.size))
  clear hb G14
  go_wp2
  go_ret
  exact ⟨rfl, hB.out⟩

set_option maxRecDepth 100000 in
set_option maxHeartbeats 8000000 in
theorem machine_eq (x : Int) (s sm pr q : List UInt8) (hx0 : -2147483648 ≤ x) (hx1 : x ≤ 2147483647) (hyne : (x == 0) = false) (hy : ¬ x = 0) (hxy0 : -4611686018427387904 ≤ x * x) (hxy1 : x * x ≤ 4611686018427387904) (w : World) (ht : Tab w)
    (H1 : ∀ W, Tab W → Calls Tryz.prog 12 #[] W fun e w' => e = .returned (.bool true) ∧ Below W.heap.size W w')
    (H2 : ∀ W, Tab W → Calls Tryz.prog 35 #[.int .i64 x] W fun e w' => e = .returned (txt s) ∧ Below W.heap.size W w')
    (H3 : ∀ W, Tab W → Calls Tryz.prog 35 #[.int .i64 x] W fun e w' => e = .returned (txt s) ∧ Below W.heap.size W w')
    (H4 : ∀ W, Tab W → Calls Tryz.prog 31 #[txt s] W fun e w' => e = .returned (.tuple #[.int .i64 x, .int .i64 0]) ∧ Below W.heap.size W w')
    (H5 : ∀ W, Tab W → Calls Tryz.prog 14 #[txt s, txt s] W fun e w' => e = .returned (.tuple #[txt sm, .int .i64 0]) ∧ Below W.heap.size W w')
    (H6 : ∀ W, Tab W → Calls Tryz.prog 16 #[txt s, txt s] W fun e w' => e = .returned (.tuple #[.string { data := #[48] }, .int .i64 0]) ∧ Below W.heap.size W w')
    (H7 : ∀ W, Tab W → Calls Tryz.prog 15 #[txt s, txt s] W fun e w' => e = .returned (.tuple #[txt pr, .int .i64 0]) ∧ Below W.heap.size W w')
    (H8 : ∀ W, Tab W → Calls Tryz.prog 35 #[.int .i64 (x + x)] W fun e w' => e = .returned (txt sm) ∧ Below W.heap.size W w')
    (H9 : ∀ W, Tab W → Calls Tryz.prog 35 #[.int .i64 0] W fun e w' => e = .returned (.string { data := #[48] }) ∧ Below W.heap.size W w')
    (H10 : ∀ W, Tab W → Calls Tryz.prog 35 #[.int .i64 (x * x)] W fun e w' => e = .returned (txt pr) ∧ Below W.heap.size W w')
    (H11 : ∀ W, Tab W → Calls Tryz.prog 18 #[txt s, txt s] W fun e w' => e = .returned (.int .i64 0) ∧ Below W.heap.size W w')
    (H12 : ∀ W, Tab W → Calls Tryz.prog 17 #[txt s, txt s] W fun e w' => e = .returned (.tuple #[txt q, .string { data := #[48] }, .int .i64 0]) ∧ Below W.heap.size W w')
    (H13 : ∀ W, Tab W → Calls Tryz.prog 35 #[.int .i64 1] W fun e w' => e = .returned (txt q) ∧ Below W.heap.size W w')
    (H14 : ∀ W, Tab W → Calls Tryz.prog 35 #[.int .i64 0] W fun e w' => e = .returned (.string { data := #[48] }) ∧ Below W.heap.size W w') :
    Calls Tryz.prog 10 #[.int .i32 x, .int .i32 x] w fun e w' => e = .returned (.bool true) ∧ Below w.heap.size w w' := by
  have HT := Lib.hid ht
  have hB := Lib.hid (Below.refl w.heap.size w)
  clear ht
  have G1 := fun W (hW : Tab W) => Lib.hid (H1 W hW)
  have G2 := fun W (hW : Tab W) => Lib.hid (H2 W hW)
  have G3 := fun W (hW : Tab W) => Lib.hid (H3 W hW)
  have G4 := fun W (hW : Tab W) => Lib.hid (H4 W hW)
  have G5 := fun W (hW : Tab W) => Lib.hid (H5 W hW)
  have G6 := fun W (hW : Tab W) => Lib.hid (H6 W hW)
  have G7 := fun W (hW : Tab W) => Lib.hid (H7 W hW)
  have G8 := fun W (hW : Tab W) => Lib.hid (H8 W hW)
  have G9 := fun W (hW : Tab W) => Lib.hid (H9 W hW)
  have G10 := fun W (hW : Tab W) => Lib.hid (H10 W hW)
  have G11 := fun W (hW : Tab W) => Lib.hid (H11 W hW)
  have G12 := fun W (hW : Tab W) => Lib.hid (H12 W hW)
  have G13 := fun W (hW : Tab W) => Lib.hid (H13 W hW)
  have G14 := fun W (hW : Tab W) => Lib.hid (H14 W hW)
  clear H1 H2 H3 H4 H5 H6 H7 H8 H9 H10 H11 H12 H13 H14
  go_enter Tryz.func10, Tryz.ntmps10
  go_wp2_with fail
  refine (G1 _ HT.out).out.mono ?_
  rintro e w1 ⟨rfl, hb⟩
  replace HT := Lib.hid (HT.out.later hb)
  replace hB := Lib.hid (hB.out.trans (hb.mono hB.out.size))
  clear hb G1
  go_wp2_with fail
  refine (G2 _ HT.out).out.mono ?_
  rintro e w2 ⟨rfl, hb⟩
  replace HT := Lib.hid (HT.out.later hb)
  replace hB := Lib.hid (hB.out.trans (hb.mono hB.out.size))
  clear hb G2
  go_wp2_with fail
  refine (G3 _ HT.out).out.mono ?_
  rintro e w3 ⟨rfl, hb⟩
  replace HT := Lib.hid (HT.out.later hb)
  replace hB := Lib.hid (hB.out.trans (hb.mono hB.out.size))
  clear hb G3
  go_wp2_with fail
  refine (G4 _ HT.out).out.mono ?_
  rintro e w4 ⟨rfl, hb⟩
  replace HT := Lib.hid (HT.out.later hb)
  replace hB := Lib.hid (hB.out.trans (hb.mono hB.out.size))
  clear hb G4
  go_wp2_with fail
  refine (G5 _ HT.out).out.mono ?_
  rintro e w5 ⟨rfl, hb⟩
  replace HT := Lib.hid (HT.out.later hb)
  replace hB := Lib.hid (hB.out.trans (hb.mono hB.out.size))
  clear hb G5
  go_wp2_with fail
  refine (G6 _ HT.out).out.mono ?_
  rintro e w6 ⟨rfl, hb⟩
  replace HT := Lib.hid (HT.out.later hb)
  replace hB := Lib.hid (hB.out.trans (hb.mono hB.out.size))
  clear hb G6
  go_wp2_with fail
  refine (G7 _ HT.out).out.mono ?_
  rintro e w7 ⟨rfl, hb⟩
  replace HT := Lib.hid (HT.out.later hb)
  replace hB := Lib.hid (hB.out.trans (hb.mono hB.out.size))
  clear hb G7
  go_wp2_with fail
  refine (G8 _ HT.out).out.mono ?_
  rintro e w8 ⟨rfl, hb⟩
  replace HT := Lib.hid (HT.out.later hb)
  replace hB := Lib.hid (hB.out.trans (hb.mono hB.out.size))
  clear hb G8
  go_wp2_with fail
  refine (G9 _ HT.out).out.mono ?_
  rintro e w9 ⟨rfl, hb⟩
  replace HT := Lib.hid (HT.out.later hb)
  replace hB := Lib.hid (hB.out.trans (hb.mono hB.out.size))
  clear hb G9
  go_wp2_with fail
  refine (G10 _ HT.out).out.mono ?_
  rintro e w10 ⟨rfl, hb⟩
  replace HT := Lib.hid (HT.out.later hb)
  replace hB := Lib.hid (hB.out.trans (hb.mono hB.out.size))
  clear hb G10
  go_wp2_with fail
  refine (G11 _ HT.out).out.mono ?_
  rintro e w11 ⟨rfl, hb⟩
  replace HT := Lib.hid (HT.out.later hb)
  replace hB := Lib.hid (hB.out.trans (hb.mono hB.out.size))
  clear hb G11
  go_wp2_with fail
  refine (G12 _ HT.out).out.mono ?_
  rintro e w12 ⟨rfl, hb⟩
  replace HT := Lib.hid (HT.out.later hb)
  replace hB := Lib.hid (hB.out.trans (hb.mono hB.out.size))
  clear hb G12
  go_wp2_with fail
  refine (G13 _ HT.out).out.mono ?_
  rintro e w13 ⟨rfl, hb⟩
  replace HT := Lib.hid (HT.out.later hb)
  replace hB := Lib.hid (hB.out.trans (hb.mono hB.out.size))
  clear hb G13
  go_wp2_with fail
  refine (G14 _ HT.out).out.mono ?_
  rintro e w14 ⟨rfl, hb⟩
  replace HT := Lib.hid (HT.out.later hb)
  replace hB := Lib.hid (hB.out.trans (hb.mono hB.out.size))
  clear hb G14
  go_wp2
  go_ret
  exact ⟨rfl, hB.out⟩

set_option maxRecDepth 100000 in
set_option maxHeartbeats 8000000 in
theorem machine_zero_lt (x : Int) (s : List UInt8) (hx0 : -2147483648 ≤ x) (hx1 : x ≤ 2147483647) (ho : x < 0) (w : World) (ht : Tab w)
    (H1 : ∀ W, Tab W → Calls Tryz.prog 12 #[] W fun e w' => e = .returned (.bool true) ∧ Below W.heap.size W w')
    (H2 : ∀ W, Tab W → Calls Tryz.prog 35 #[.int .i64 x] W fun e w' => e = .returned (txt s) ∧ Below W.heap.size W w')
    (H3 : ∀ W, Tab W → Calls Tryz.prog 35 #[.int .i64 0] W fun e w' => e = .returned (.string { data := #[48] }) ∧ Below W.heap.size W w')
    (H4 : ∀ W, Tab W → Calls Tryz.prog 31 #[txt s] W fun e w' => e = .returned (.tuple #[.int .i64 x, .int .i64 0]) ∧ Below W.heap.size W w')
    (H5 : ∀ W, Tab W → Calls Tryz.prog 14 #[txt s, .string { data := #[48] }] W fun e w' => e = .returned (.tuple #[txt s, .int .i64 0]) ∧ Below W.heap.size W w')
    (H6 : ∀ W, Tab W → Calls Tryz.prog 16 #[txt s, .string { data := #[48] }] W fun e w' => e = .returned (.tuple #[txt s, .int .i64 0]) ∧ Below W.heap.size W w')
    (H7 : ∀ W, Tab W → Calls Tryz.prog 15 #[txt s, .string { data := #[48] }] W fun e w' => e = .returned (.tuple #[.string { data := #[48] }, .int .i64 0]) ∧ Below W.heap.size W w')
    (H8 : ∀ W, Tab W → Calls Tryz.prog 35 #[.int .i64 x] W fun e w' => e = .returned (txt s) ∧ Below W.heap.size W w')
    (H9 : ∀ W, Tab W → Calls Tryz.prog 35 #[.int .i64 x] W fun e w' => e = .returned (txt s) ∧ Below W.heap.size W w')
    (H10 : ∀ W, Tab W → Calls Tryz.prog 35 #[.int .i64 0] W fun e w' => e = .returned (.string { data := #[48] }) ∧ Below W.heap.size W w')
    (H11 : ∀ W, Tab W → Calls Tryz.prog 18 #[txt s, .string { data := #[48] }] W fun e w' => e = .returned (.int .i64 (-1)) ∧ Below W.heap.size W w')
    (H12 : ∀ W, Tab W → Calls Tryz.prog 17 #[txt s, .string { data := #[48] }] W fun e w' => e = .returned (.tuple #[.string { data := #[] }, .string { data := #[] }, .int .i64 30]) ∧ Below W.heap.size W w') :
    Calls Tryz.prog 10 #[.int .i32 x, .int .i32 0] w fun e w' => e = .returned (.bool true) ∧ Below w.heap.size w w' := by
  have HT := Lib.hid ht
  have hB := Lib.hid (Below.refl w.heap.size w)
  clear ht
  have G1 := fun W (hW : Tab W) => Lib.hid (H1 W hW)
  have G2 := fun W (hW : Tab W) => Lib.hid (H2 W hW)
  have G3 := fun W (hW : Tab W) => Lib.hid (H3 W hW)
  have G4 := fun W (hW : Tab W) => Lib.hid (H4 W hW)
  have G5 := fun W (hW : Tab W) => Lib.hid (H5 W hW)
  have G6 := fun W (hW : Tab W) => Lib.hid (H6 W hW)
  have G7 := fun W (hW : Tab W) => Lib.hid (H7 W hW)
  have G8 := fun W (hW : Tab W) => Lib.hid (H8 W hW)
  have G9 := fun W (hW : Tab W) => Lib.hid (H9 W hW)
  have G10 := fun W (hW : Tab W) => Lib.hid (H10 W hW)
  have G11 := fun W (hW : Tab W) => Lib.hid (H11 W hW)
  have G12 := fun W (hW : Tab W) => Lib.hid (H12 W hW)
  clear H1 H2 H3 H4 H5 H6 H7 H8 H9 H10 H11 H12
  go_enter Tryz.func10, Tryz.ntmps10
  go_wp2_with fail
  refine (G1 _ HT.out).out.mono ?_
  rintro e w1 ⟨rfl, hb⟩
  replace HT := Lib.hid (HT.out.later hb)
  replace hB := Lib.hid (hB.out.trans (hb.mono hB.out.size))
  clear hb G1
  go_wp2_with fail
  refine (G2 _ HT.out).out.mono ?_
  rintro e w2 ⟨rfl, hb⟩
  replace HT := Lib.hid (HT.out.later hb)
  replace hB := Lib.hid (hB.out.trans (hb.mono hB.out.size))
  clear hb G2
  go_wp2_with fail
  refine (G3 _ HT.out).out.mono ?_
  rintro e w3 ⟨rfl, hb⟩
  replace HT := Lib.hid (HT.out.later hb)
  replace hB := Lib.hid (hB.out.trans (hb.mono hB.out.size))
  clear hb G3
  go_wp2_with fail
  refine (G4 _ HT.out).out.mono ?_
  rintro e w4 ⟨rfl, hb⟩
  replace HT := Lib.hid (HT.out.later hb)
  replace hB := Lib.hid (hB.out.trans (hb.mono hB.out.size))
  clear hb G4
  go_wp2_with fail
  refine (G5 _ HT.out).out.mono ?_
  rintro e w5 ⟨rfl, hb⟩
  replace HT := Lib.hid (HT.out.later hb)
  replace hB := Lib.hid (hB.out.trans (hb.mono hB.out.size))
  clear hb G5
  go_wp2_with fail
  refine (G6 _ HT.out).out.mono ?_
  rintro e w6 ⟨rfl, hb⟩
  replace HT := Lib.hid (HT.out.later hb)
  replace hB := Lib.hid (hB.out.trans (hb.mono hB.out.size))
  clear hb G6
  go_wp2_with fail
  refine (G7 _ HT.out).out.mono ?_
  rintro e w7 ⟨rfl, hb⟩
  replace HT := Lib.hid (HT.out.later hb)
  replace hB := Lib.hid (hB.out.trans (hb.mono hB.out.size))
  clear hb G7
  go_wp2_with fail
  refine (G8 _ HT.out).out.mono ?_
  rintro e w8 ⟨rfl, hb⟩
  replace HT := Lib.hid (HT.out.later hb)
  replace hB := Lib.hid (hB.out.trans (hb.mono hB.out.size))
  clear hb G8
  go_wp2_with fail
  refine (G9 _ HT.out).out.mono ?_
  rintro e w9 ⟨rfl, hb⟩
  replace HT := Lib.hid (HT.out.later hb)
  replace hB := Lib.hid (hB.out.trans (hb.mono hB.out.size))
  clear hb G9
  go_wp2_with fail
  refine (G10 _ HT.out).out.mono ?_
  rintro e w10 ⟨rfl, hb⟩
  replace HT := Lib.hid (HT.out.later hb)
  replace hB := Lib.hid (hB.out.trans (hb.mono hB.out.size))
  clear hb G10
  go_wp2_with fail
  refine (G11 _ HT.out).out.mono ?_
  rintro e w11 ⟨rfl, hb⟩
  replace HT := Lib.hid (HT.out.later hb)
  replace hB := Lib.hid (hB.out.trans (hb.mono hB.out.size))
  clear hb G11
  go_wp2_with fail
  refine (G12 _ HT.out).out.mono ?_
  rintro e w12 ⟨rfl, hb⟩
  replace HT := Lib.hid (HT.out.later hb)
  replace hB := Lib.hid (hB.out.trans (hb.mono hB.out.size))
  clear hb G12
  go_wp2
  go_ret
  exact ⟨rfl, hB.out⟩

set_option maxRecDepth 100000 in
set_option maxHeartbeats 8000000 in
theorem machine_zero_gt (x : Int) (s : List UInt8) (hx0 : -2147483648 ≤ x) (hx1 : x ≤ 2147483647) (ho : 0 < x) (w : World) (ht : Tab w)
    (H1 : ∀ W, Tab W → Calls Tryz.prog 12 #[] W fun e w' => e = .returned (.bool true) ∧ Below W.heap.size W w')
    (H2 : ∀ W, Tab W → Calls Tryz.prog 35 #[.int .i64 x] W fun e w' => e = .returned (txt s) ∧ Below W.heap.size W w')
    (H3 : ∀ W, Tab W → Calls Tryz.prog 35 #[.int .i64 0] W fun e w' => e = .returned (.string { data := #[48] }) ∧ Below W.heap.size W w')
    (H4 : ∀ W, Tab W → Calls Tryz.prog 31 #[txt s] W fun e w' => e = .returned (.tuple #[.int .i64 x, .int .i64 0]) ∧ Below W.heap.size W w')
    (H5 : ∀ W, Tab W → Calls Tryz.prog 14 #[txt s, .string { data := #[48] }] W fun e w' => e = .returned (.tuple #[txt s, .int .i64 0]) ∧ Below W.heap.size W w')
    (H6 : ∀ W, Tab W → Calls Tryz.prog 16 #[txt s, .string { data := #[48] }] W fun e w' => e = .returned (.tuple #[txt s, .int .i64 0]) ∧ Below W.heap.size W w')
    (H7 : ∀ W, Tab W → Calls Tryz.prog 15 #[txt s, .string { data := #[48] }] W fun e w' => e = .returned (.tuple #[.string { data := #[48] }, .int .i64 0]) ∧ Below W.heap.size W w')
    (H8 : ∀ W, Tab W → Calls Tryz.prog 35 #[.int .i64 x] W fun e w' => e = .returned (txt s) ∧ Below W.heap.size W w')
    (H9 : ∀ W, Tab W → Calls Tryz.prog 35 #[.int .i64 x] W fun e w' => e = .returned (txt s) ∧ Below W.heap.size W w')
    (H10 : ∀ W, Tab W → Calls Tryz.prog 35 #[.int .i64 0] W fun e w' => e = .returned (.string { data := #[48] }) ∧ Below W.heap.size W w')
    (H11 : ∀ W, Tab W → Calls Tryz.prog 18 #[txt s, .string { data := #[48] }] W fun e w' => e = .returned (.int .i64 1) ∧ Below W.heap.size W w')
    (H12 : ∀ W, Tab W → Calls Tryz.prog 17 #[txt s, .string { data := #[48] }] W fun e w' => e = .returned (.tuple #[.string { data := #[] }, .string { data := #[] }, .int .i64 30]) ∧ Below W.heap.size W w') :
    Calls Tryz.prog 10 #[.int .i32 x, .int .i32 0] w fun e w' => e = .returned (.bool true) ∧ Below w.heap.size w w' := by
  have HT := Lib.hid ht
  have hB := Lib.hid (Below.refl w.heap.size w)
  clear ht
  have G1 := fun W (hW : Tab W) => Lib.hid (H1 W hW)
  have G2 := fun W (hW : Tab W) => Lib.hid (H2 W hW)
  have G3 := fun W (hW : Tab W) => Lib.hid (H3 W hW)
  have G4 := fun W (hW : Tab W) => Lib.hid (H4 W hW)
  have G5 := fun W (hW : Tab W) => Lib.hid (H5 W hW)
  have G6 := fun W (hW : Tab W) => Lib.hid (H6 W hW)
  have G7 := fun W (hW : Tab W) => Lib.hid (H7 W hW)
  have G8 := fun W (hW : Tab W) => Lib.hid (H8 W hW)
  have G9 := fun W (hW : Tab W) => Lib.hid (H9 W hW)
  have G10 := fun W (hW : Tab W) => Lib.hid (H10 W hW)
  have G11 := fun W (hW : Tab W) => Lib.hid (H11 W hW)
  have G12 := fun W (hW : Tab W) => Lib.hid (H12 W hW)
  clear H1 H2 H3 H4 H5 H6 H7 H8 H9 H10 H11 H12
  go_enter Tryz.func10, Tryz.ntmps10
  go_wp2_with fail
  refine (G1 _ HT.out).out.mono ?_
  rintro e w1 ⟨rfl, hb⟩
  replace HT := Lib.hid (HT.out.later hb)
  replace hB := Lib.hid (hB.out.trans (hb.mono hB.out.size))
  clear hb G1
  go_wp2_with fail
  refine (G2 _ HT.out).out.mono ?_
  rintro e w2 ⟨rfl, hb⟩
  replace HT := Lib.hid (HT.out.later hb)
  replace hB := Lib.hid (hB.out.trans (hb.mono hB.out.size))
  clear hb G2
  go_wp2_with fail
  refine (G3 _ HT.out).out.mono ?_
  rintro e w3 ⟨rfl, hb⟩
  replace HT := Lib.hid (HT.out.later hb)
  replace hB := Lib.hid (hB.out.trans (hb.mono hB.out.size))
  clear hb G3
  go_wp2_with fail
  refine (G4 _ HT.out).out.mono ?_
  rintro e w4 ⟨rfl, hb⟩
  replace HT := Lib.hid (HT.out.later hb)
  replace hB := Lib.hid (hB.out.trans (hb.mono hB.out.size))
  clear hb G4
  go_wp2_with fail
  refine (G5 _ HT.out).out.mono ?_
  rintro e w5 ⟨rfl, hb⟩
  replace HT := Lib.hid (HT.out.later hb)
  replace hB := Lib.hid (hB.out.trans (hb.mono hB.out.size))
  clear hb G5
  go_wp2_with fail
  refine (G6 _ HT.out).out.mono ?_
  rintro e w6 ⟨rfl, hb⟩
  replace HT := Lib.hid (HT.out.later hb)
  replace hB := Lib.hid (hB.out.trans (hb.mono hB.out.size))
  clear hb G6
  go_wp2_with fail
  refine (G7 _ HT.out).out.mono ?_
  rintro e w7 ⟨rfl, hb⟩
  replace HT := Lib.hid (HT.out.later hb)
  replace hB := Lib.hid (hB.out.trans (hb.mono hB.out.size))
  clear hb G7
  go_wp2_with fail
  refine (G8 _ HT.out).out.mono ?_
  rintro e w8 ⟨rfl, hb⟩
  replace HT := Lib.hid (HT.out.later hb)
  replace hB := Lib.hid (hB.out.trans (hb.mono hB.out.size))
  clear hb G8
  go_wp2_with fail
  refine (G9 _ HT.out).out.mono ?_
  rintro e w9 ⟨rfl, hb⟩
  replace HT := Lib.hid (HT.out.later hb)
  replace hB := Lib.hid (hB.out.trans (hb.mono hB.out.size))
  clear hb G9
  go_wp2_with fail
  refine (G10 _ HT.out).out.mono ?_
  rintro e w10 ⟨rfl, hb⟩
  replace HT := Lib.hid (HT.out.later hb)
  replace hB := Lib.hid (hB.out.trans (hb.mono hB.out.size))
  clear hb G10
  go_wp2_with fail
  refine (G11 _ HT.out).out.mono ?_
  rintro e w11 ⟨rfl, hb⟩
  replace HT := Lib.hid (HT.out.later hb)
  replace hB := Lib.hid (hB.out.trans (hb.mono hB.out.size))
  clear hb G11
  go_wp2_with fail
  refine (G12 _ HT.out).out.mono ?_
  rintro e w12 ⟨rfl, hb⟩
  replace HT := Lib.hid (HT.out.later hb)
  replace hB := Lib.hid (hB.out.trans (hb.mono hB.out.size))
  clear hb G12
  go_wp2
  go_ret
  exact ⟨rfl, hB.out⟩

set_option maxRecDepth 100000 in
set_option maxHeartbeats 8000000 in
theorem machine_zero_eq (w : World) (ht : Tab w)
    (H1 : ∀ W, Tab W → Calls Tryz.prog 12 #[] W fun e w' => e = .returned (.bool true) ∧ Below W.heap.size W w')
    (H2 : ∀ W, Tab W → Calls Tryz.prog 35 #[.int .i64 0] W fun e w' => e = .returned (.string { data := #[48] }) ∧ Below W.heap.size W w')
    (H3 : ∀ W, Tab W → Calls Tryz.prog 35 #[.int .i64 0] W fun e w' => e = .returned (.string { data := #[48] }) ∧ Below W.heap.size W w')
    (H4 : ∀ W, Tab W → Calls Tryz.prog 31 #[.string { data := #[48] }] W fun e w' => e = .returned (.tuple #[.int .i64 0, .int .i64 0]) ∧ Below W.heap.size W w')
    (H5 : ∀ W, Tab W → Calls Tryz.prog 14 #[.string { data := #[48] }, .string { data := #[48] }] W fun e w' => e = .returned (.tuple #[.string { data := #[48] }, .int .i64 0]) ∧ Below W.heap.size W w')
    (H6 : ∀ W, Tab W → Calls Tryz.prog 16 #[.string { data := #[48] }, .string { data := #[48] }] W fun e w' => e = .returned (.tuple #[.string { data := #[48] }, .int .i64 0]) ∧ Below W.heap.size W w')
    (H7 : ∀ W, Tab W → Calls Tryz.prog 15 #[.string { data := #[48] }, .string { data := #[48] }] W fun e w' => e = .returned (.tuple #[.string { data := #[48] }, .int .i64 0]) ∧ Below W.heap.size W w')
    (H8 : ∀ W, Tab W → Calls Tryz.prog 35 #[.int .i64 0] W fun e w' => e = .returned (.string { data := #[48] }) ∧ Below W.heap.size W w')
    (H9 : ∀ W, Tab W → Calls Tryz.prog 35 #[.int .i64 0] W fun e w' => e = .returned (.string { data := #[48] }) ∧ Below W.heap.size W w')
    (H10 : ∀ W, Tab W → Calls Tryz.prog 35 #[.int .i64 0] W fun e w' => e = .returned (.string { data := #[48] }) ∧ Below W.heap.size W w')
    (H11 : ∀ W, Tab W → Calls Tryz.prog 18 #[.string { data := #[48] }, .string { data := #[48] }] W fun e w' => e = .returned (.int .i64 0) ∧ Below W.heap.size W w')
    (H12 : ∀ W, Tab W → Calls Tryz.prog 17 #[.string { data := #[48] }, .string { data := #[48] }] W fun e w' => e = .returned (.tuple #[.string { data := #[] }, .string { data := #[] }, .int .i64 30]) ∧ Below W.heap.size W w') :
    Calls Tryz.prog 10 #[.int .i32 0, .int .i32 0] w fun e w' => e = .returned (.bool true) ∧ Below w.heap.size w w' := by
  have HT := Lib.hid ht
  have hB := Lib.hid (Below.refl w.heap.size w)
  clear ht
  have G1 := fun W (hW : Tab W) => Lib.hid (H1 W hW)
  have G2 := fun W (hW : Tab W) => Lib.hid (H2 W hW)
  have G3 := fun W (hW : Tab W) => Lib.hid (H3 W hW)
  have G4 := fun W (hW : Tab W) => Lib.hid (H4 W hW)
  have G5 := fun W (hW : Tab W) => Lib.hid (H5 W hW)
  have G6 := fun W (hW : Tab W) => Lib.hid (H6 W hW)
  have G7 := fun W (hW : Tab W) => Lib.hid (H7 W hW)
  have G8 := fun W (hW : Tab W) => Lib.hid (H8 W hW)
  have G9 := fun W (hW : Tab W) => Lib.hid (H9 W hW)
  have G10 := fun W (hW : Tab W) => Lib.hid (H10 W hW)
  have G11 := fun W (hW : Tab W) => Lib.hid (H11 W hW)
  have G12 := fun W (hW : Tab W) => Lib.hid (H12 W hW)
  clear H1 H2 H3 H4 H5 H6 H7 H8 H9 H10 H11 H12
  go_enter Tryz.func10, Tryz.ntmps10
  go_wp2_with fail
  refine (G1 _ HT.out).out.mono ?_
  rintro e w1 ⟨rfl, hb⟩
  replace HT := Lib.hid (HT.out.later hb)
  replace hB := Lib.hid (hB.out.trans (hb.mono hB.out.size))
  clear hb G1
  go_wp2_with fail
  refine (G2 _ HT.out).out.mono ?_
  rintro e w2 ⟨rfl, hb⟩
  replace HT := Lib.hid (HT.out.later hb)
  replace hB := Lib.hid (hB.out.trans (hb.mono hB.out.size))
  clear hb G2
  go_wp2_with fail
  refine (G3 _ HT.out).out.mono ?_
  rintro e w3 ⟨rfl, hb⟩
  replace HT := Lib.hid (HT.out.later hb)
  replace hB := Lib.hid (hB.out.trans (hb.mono hB.out.size))
  clear hb G3
  go_wp2_with fail
  refine (G4 _ HT.out).out.mono ?_
  rintro e w4 ⟨rfl, hb⟩
  replace HT := Lib.hid (HT.out.later hb)
  replace hB := Lib.hid (hB.out.trans (hb.mono hB.out.size))
  clear hb G4
  go_wp2_with fail
  refine (G5 _ HT.out).out.mono ?_
  rintro e w5 ⟨rfl, hb⟩
  replace HT := Lib.hid (HT.out.later hb)
  replace hB := Lib.hid (hB.out.trans (hb.mono hB.out.size))
  clear hb G5
  go_wp2_with fail
  refine (G6 _ HT.out).out.mono ?_
  rintro e w6 ⟨rfl, hb⟩
  replace HT := Lib.hid (HT.out.later hb)
  replace hB := Lib.hid (hB.out.trans (hb.mono hB.out.size))
  clear hb G6
  go_wp2_with fail
  refine (G7 _ HT.out).out.mono ?_
  rintro e w7 ⟨rfl, hb⟩
  replace HT := Lib.hid (HT.out.later hb)
  replace hB := Lib.hid (hB.out.trans (hb.mono hB.out.size))
  clear hb G7
  go_wp2_with fail
  refine (G8 _ HT.out).out.mono ?_
  rintro e w8 ⟨rfl, hb⟩
  replace HT := Lib.hid (HT.out.later hb)
  replace hB := Lib.hid (hB.out.trans (hb.mono hB.out.size))
  clear hb G8
  go_wp2_with fail
  refine (G9 _ HT.out).out.mono ?_
  rintro e w9 ⟨rfl, hb⟩
  replace HT := Lib.hid (HT.out.later hb)
  replace hB := Lib.hid (hB.out.trans (hb.mono hB.out.size))
  clear hb G9
  go_wp2_with fail
  refine (G10 _ HT.out).out.mono ?_
  rintro e w10 ⟨rfl, hb⟩
  replace HT := Lib.hid (HT.out.later hb)
  replace hB := Lib.hid (hB.out.trans (hb.mono hB.out.size))
  clear hb G10
  go_wp2_with fail
  refine (G11 _ HT.out).out.mono ?_
  rintro e w11 ⟨rfl, hb⟩
  replace HT := Lib.hid (HT.out.later hb)
  replace hB := Lib.hid (hB.out.trans (hb.mono hB.out.size))
  clear hb G11
  go_wp2_with fail
  refine (G12 _ HT.out).out.mono ?_
  rintro e w12 ⟨rfl, hb⟩
  replace HT := Lib.hid (HT.out.later hb)
  replace hB := Lib.hid (hB.out.trans (hb.mono hB.out.size))
  clear hb G12
  go_wp2
  go_ret
  exact ⟨rfl, hB.out⟩
end Go.Proofs.YtabodoellnmofaaGreatDoor
namespace Go.Proofs.YtabodoellnmofaaGreatDoor
open Go.RowKit Go.Shelf

theorem abs_prod {x y : Int} (hx0 : -2147483648 ≤ x) (hx1 : x ≤ 2147483647) (hy0 : -2147483648 ≤ y) (hy1 : y ≤ 2147483647) : (x * y).natAbs ≤ 4611686018427387904 := by
  rw [Int.natAbs_mul]
  exact Nat.mul_le_mul (show x.natAbs ≤ 2147483648 by omega) (show y.natAbs ≤ 2147483648 by omega)

theorem ed_unique {x y q r : Int} (hy : y ≠ 0) (h : r + y * q = x) (h0 : 0 ≤ r) (h1 : r < (y.natAbs : Int)) : x / y = q ∧ x % y = r := by
  rcases Int.lt_or_gt_of_ne hy with hn | hp
  · have h2 := (Int.ediv_emod_unique (a := x) (b := -y) (r := r) (q := -q) (by omega)).2 ⟨by rw [Int.neg_mul_neg]; exact h, h0, by omega⟩
    rw [Int.ediv_neg, Int.emod_neg] at h2
    exact ⟨by omega, h2.2⟩
  · exact (Int.ediv_emod_unique (by omega)).2 ⟨h, h0, by omega⟩

theorem machine_any (x y : Int) (hx0 : -2147483648 ≤ x) (hx1 : x ≤ 2147483647) (hy0 : -2147483648 ≤ y) (hy1 : y ≤ 2147483647) (w : World) (ht : Tab w) :
    Calls Tryz.prog 10 #[.int .i32 x, .int .i32 y] w fun e w' => e = .returned (.bool true) ∧ Below w.heap.size w w' := by
  have hs := fun W hW => sane_any W hW
  have hp := abs_prod hx0 hx1 hy0 hy1
  have big : (4611686018427387905 : Nat) ≤ 10 ^ 200 := by decide +kernel
  have b17 : (2147483649 : Nat) ≤ 10 ^ 17 := by decide +kernel
  have bx : x.natAbs < 10 ^ 200 := by omega
  have by' : y.natAbs < 10 ^ 200 := by omega
  have bs : (x + y).natAbs < 10 ^ 200 := by omega
  have bd : (x - y).natAbs < 10 ^ 200 := by omega
  have bp : (x * y).natAbs < 10 ^ 200 := by omega
  have f1 := from_is x _ rfl (by omega) (by omega)
  have f2 := from_is y _ rfl (by omega) (by omega)
  have t1 := toint_is x _ rfl (by omega)
  have a1 := add_is x y (x + y) _ _ _ bx by' bs rfl rfl rfl rfl
  have s1 := sub_is x y (x - y) _ _ _ bx by' bd rfl rfl rfl rfl
  have m1 := mul_is x y (x * y) _ _ _ bx by' bp rfl rfl rfl rfl
  have f3 := from_is (x + y) _ rfl (by omega) (by omega)
  have f4 := from_is (x - y) _ rfl (by omega) (by omega)
  have f5 := from_is (x * y) _ rfl (by omega) (by omega)
  by_cases h0 : y = 0
  · subst h0
    rw [zero_txt] at f2 a1 s1 m1
    rw [Int.add_zero] at a1 f3
    rw [Int.sub_zero] at s1 f4
    rw [Int.mul_zero] at m1 f5
    rw [zero_txt] at m1 f5
    have d1 := fun W (_ : Tab W) => div_zero x W bx
    rcases Int.lt_trichotomy x 0 with h | h | h
    · exact machine_zero_lt x _ hx0 hx1 h w ht hs f1 f2 t1 a1 s1 m1 f3 f4 f5 (cmp_is x 0 (-1) _ [48] bx abs0 (sgn_of_lt h) rfl zero_txt) d1
    · subst h
      rw [zero_txt] at f1 t1 a1 s1 m1 f3 f4
      have d2 := fun W (hW : Tab W) => d1 W hW
      simp only [zero_txt] at d2
      exact machine_zero_eq w ht hs f1 f2 t1 a1 s1 m1 f3 f4 f5 (cmp_is 0 0 0 [48] [48] abs0 abs0 (sgn_self 0) zero_txt zero_txt) d2
    · exact machine_zero_gt x _ hx0 hx1 h w ht hs f1 f2 t1 a1 s1 m1 f3 f4 f5 (cmp_is x 0 1 _ [48] bx abs0 (sgn_of_gt h) rfl zero_txt) d1
  · have hyne : (y == 0) = false := by rw [beq_eq_false_iff_ne]; exact h0
    obtain ⟨m0, em⟩ : ∃ m0, Int.tmod x y = m0 := ⟨_, rfl⟩
    obtain ⟨d0, ed⟩ : ∃ d0, Int.tdiv x y = d0 := ⟨_, rfl⟩
    have hmd := Int.tmod_add_mul_tdiv x y
    have hma := Int.natAbs_tmod x y
    have hda := Int.natAbs_tdiv x y
    rw [em, ed] at hmd
    rw [em] at hma
    rw [ed] at hda
    have hml : m0.natAbs < y.natAbs := by rw [hma]; exact Nat.mod_lt _ (by omega)
    have hdl : d0.natAbs ≤ x.natAbs := by rw [hda]; exact Nat.div_le_self _ _
    by_cases hxy : x = y
    · subst hxy
      have d1 := div_is x x 1 0 _ _ _ [48] bx bx h0 (Int.ediv_self h0) (Int.emod_self) rfl rfl rfl zero_txt
      rw [Int.sub_self] at s1 f4
      rw [zero_txt] at s1 f4
      exact machine_eq x _ _ _ _ hx0 hx1 hyne h0 (by omega) (by omega) w ht hs f1 f1 t1 a1 s1 m1 f3 f4 f5 (cmp_is x x 0 _ _ bx bx (sgn_self x) rfl rfl) d1 (from_is 1 _ rfl (by omega) (by omega)) (from_is 0 [48] zero_txt (by omega) (by omega))
    · by_cases hm : 0 ≤ m0
      · obtain ⟨e1, e2⟩ := ed_unique h0 hmd hm (by omega)
        have d1 := div_is x y d0 m0 _ _ _ _ bx by' h0 e1 e2 rfl rfl rfl rfl
        have g1 := from_is d0 _ rfl (by omega) (by omega)
        have g2 := from_is m0 _ rfl (by omega) (by omega)
        rcases Int.lt_or_gt_of_ne hxy with h | h
        · exact machine_lt_a x y m0 d0 _ _ _ _ _ _ _ hx0 hx1 hy0 hy1 h hm (by omega) (by omega) (by omega) hyne h0 em ed (by omega) (by omega) w ht hs f1 f2 t1 a1 s1 m1 f3 f4 f5 (cmp_is x y (-1) _ _ bx by' (sgn_of_lt h) rfl rfl) d1 g1 g2
        · exact machine_gt_a x y m0 d0 _ _ _ _ _ _ _ hx0 hx1 hy0 hy1 h hm (by omega) (by omega) (by omega) hyne h0 em ed (by omega) (by omega) w ht hs f1 f2 t1 a1 s1 m1 f3 f4 f5 (cmp_is x y 1 _ _ bx by' (sgn_of_gt h) rfl rfl) d1 g1 g2
      · by_cases hyp : 0 < y
        · obtain ⟨e1, e2⟩ := ed_unique (x := x) (q := d0 - 1) (r := m0 + y) h0 (by rw [Int.mul_sub]; omega) (by omega) (by omega)
          have d1 := div_is x y (d0 - 1) (m0 + y) _ _ _ _ bx by' h0 e1 e2 rfl rfl rfl rfl
          have g1 := from_is (d0 - 1) _ rfl (by omega) (by omega)
          have g2 := from_is (m0 + y) _ rfl (by omega) (by omega)
          rcases Int.lt_or_gt_of_ne hxy with h | h
          · exact machine_lt_b x y m0 d0 _ _ _ _ _ _ _ hx0 hx1 hy0 hy1 h (by omega) hyp (by omega) (by omega) (by omega) hyne h0 em ed (by omega) (by omega) w ht hs f1 f2 t1 a1 s1 m1 f3 f4 f5 (cmp_is x y (-1) _ _ bx by' (sgn_of_lt h) rfl rfl) d1 g1 g2
          · exact machine_gt_b x y m0 d0 _ _ _ _ _ _ _ hx0 hx1 hy0 hy1 h (by omega) hyp (by omega) (by omega) (by omega) hyne h0 em ed (by omega) (by omega) w ht hs f1 f2 t1 a1 s1 m1 f3 f4 f5 (cmp_is x y 1 _ _ bx by' (sgn_of_gt h) rfl rfl) d1 g1 g2
        · obtain ⟨e1, e2⟩ := ed_unique (x := x) (q := d0 + 1) (r := m0 - y) h0 (by rw [Int.mul_add]; omega) (by omega) (by omega)
          have d1 := div_is x y (d0 + 1) (m0 - y) _ _ _ _ bx by' h0 e1 e2 rfl rfl rfl rfl
          have g1 := from_is (d0 + 1) _ rfl (by omega) (by omega)
          have g2 := from_is (m0 - y) _ rfl (by omega) (by omega)
          rcases Int.lt_or_gt_of_ne hxy with h | h
          · exact machine_lt_c x y m0 d0 _ _ _ _ _ _ _ hx0 hx1 hy0 hy1 h (by omega) (by omega) (by omega) (by omega) (by omega) hyne h0 em ed (by omega) (by omega) w ht hs f1 f2 t1 a1 s1 m1 f3 f4 f5 (cmp_is x y (-1) _ _ bx by' (sgn_of_lt h) rfl rfl) d1 g1 g2
          · exact machine_gt_c x y m0 d0 _ _ _ _ _ _ _ hx0 hx1 hy0 hy1 h (by omega) (by omega) (by omega) (by omega) (by omega) hyne h0 em ed (by omega) (by omega) w ht hs f1 f2 t1 a1 s1 m1 f3 f4 f5 (cmp_is x y 1 _ _ bx by' (sgn_of_gt h) rfl rfl) d1 g1 g2
end Go.Proofs.YtabodoellnmofaaGreatDoor
