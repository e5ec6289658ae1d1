/- IntegerLimits: nines, pick, the walks, and that it answers true. -/
import Derived.Test.YtkihodadopcioaaGreatDoorSane
import Derived.Deep.LoopGhost
import Derived.Test.YtkihodadopcioaaGreatDoorDec
namespace Go.Proofs.YtkihodadopcioaaGreatDoor
open Go.RowKit Go.Shelf

theorem nines_step (i : Nat) : ((⟨(List.replicate i 57).toArray⟩ : ByteArray) ++ ⟨#[57]⟩) = ⟨(List.replicate (i + 1) 57).toArray⟩ := by
  apply ByteArray.ext
  apply Array.toList_inj.1
  simp [List.replicate_succ']

set_option maxHeartbeats 1000000 in
theorem nines_any (n : Nat) (w : World) (hn : n ≤ 1000) :
    Calls Tryz.prog 15 #[.int .i64 (n : Int)] w fun e w' => e = .returned (txt (List.replicate n 57)) ∧ Below w.heap.size w w' := by
  go_enter Tryz.func15, Tryz.ntmps15
  go_wp2
  go_loopg [3, 4] n (fun kx s t wr => ∃ (i : Nat), s = .string ⟨(List.replicate i 57).toArray⟩ ∧ t = .int .i64 (i : Int) ∧ i + kx = n ∧ wr = w)
  case atStart => exact ⟨0, rfl, rfl, by omega, rfl⟩
  case round =>
    obtain ⟨i, rfl, rfl, hi, rfl⟩ := hrel
    by_cases h : i < n
    · go_wp2
      go_roundg (gk - 1)
      case measure => omega
      case rel => exact ⟨i + 1, by rw [← nines_step]; simp, by go_num, by omega, rfl⟩
    · obtain rfl : i = n := by omega
      go_wp2
      go_ret
      exact ⟨by simp, Below.refl _ _⟩

/-- The index that an integer is mapped to. -/
def pk (c : Int) : Nat := (if c < 0 then -(c + 1) else c).toNat % 200
theorem pk_lt (c : Int) : pk c < 200 := Nat.mod_lt _ (by omega)
set_option maxHeartbeats 1000000 in
theorem pick_any (c : Int) (w : World) (h0 : -9223372036854775808 ≤ c) (h1 : c ≤ 9223372036854775807) :
    Calls Tryz.prog 18 #[.int .i64 c, .int .i64 200] w fun e w' => e = .returned (.int .i64 (pk c : Int)) ∧ Below w.heap.size w w' := by
  by_cases hc : c < 0
  · have e : (pk c : Int) = -(Int.tmod (c + 1) 200) := by
      unfold pk
      rw [if_pos hc, ← Int.neg_tmod, Int.tmod_eq_emod_of_nonneg (by omega)]
      omega
    have HE := Lib.hid e
    clear e
    go_enter Tryz.func18, Tryz.ntmps18
    go_wp2
    go_ret
    exact ⟨by rw [HE.out]; rfl, Below.refl _ _⟩
  · have e : (pk c : Int) = c % 200 := by
      unfold pk
      rw [if_neg hc]
      omega
    have HE := Lib.hid e
    clear e
    go_enter Tryz.func18, Tryz.ntmps18
    go_wp2
    go_ret
    exact ⟨by rw [HE.out]; rfl, Below.refl _ _⟩
end Go.Proofs.YtkihodadopcioaaGreatDoor
namespace Go.Proofs.YtkihodadopcioaaGreatDoor
open Go Go.Proofs.YtkihodadopcioaaGreatDoor.Dec

theorem nines_dval (n : Nat) : Dec.dval (List.replicate n 57) = 10 ^ n - 1 ∧ Dec.Digits (List.replicate n 57) := by
  refine ⟨?_, ?_⟩
  · induction n with
    | zero => rfl
    | succ n ih =>
      rw [List.replicate_succ, Dec.dval_cons, ih, List.length_replicate, Nat.pow_succ]
      have : 0 < 10 ^ n := Nat.pow_pos (by omega)
      show 9 * _ + _ = _
      omega
  · intro b hb
    rw [List.eq_of_mem_replicate hb]
    unfold Dec.IsDigit
    decide
theorem nines_itoa (n : Nat) (hn : 0 < n) : Lib.itoa (((10 ^ n - 1 : Nat)) : Int) = List.replicate n 57 := by
  obtain ⟨h1, h2⟩ := nines_dval n
  rw [Dec.itoa_nonneg (by omega)]
  show Lib.decDigits (10 ^ n - 1) = _
  rw [← h1]
  refine Dec.decDigits_dval h2 ?_ (.inr ?_)
  · intro e
    have := congrArg List.length e
    simp at this
    omega
  · obtain ⟨n, rfl⟩ : ∃ m, n = m + 1 := ⟨n - 1, by omega⟩
    rw [List.replicate_succ]
    simp
theorem nines_minus (n : Nat) (hn : 0 < n) : Lib.itoa (-((10 ^ n - 1 : Nat) : Int)) = 45 :: List.replicate n 57 := by
  have h := nines_itoa n hn
  have hp : 10 ≤ 10 ^ n := Nat.pow_le_pow_right (n := 10) (by omega) hn
  rw [Dec.itoa_nonneg (by omega)] at h
  rw [Dec.itoa_neg (by omega), show (-((10 ^ n - 1 : Nat) : Int)).natAbs = (((10 ^ n - 1 : Nat)) : Int).natAbs by omega, h]
theorem pow_itoa (n : Nat) : Lib.itoa ((2 * 10 ^ n - 1 : Nat) : Int) = 49 :: List.replicate n 57 := by
  obtain ⟨h1, h2⟩ := nines_dval n
  have hp : 0 < 10 ^ n := Nat.pow_pos (by omega)
  have e : Dec.dval (49 :: List.replicate n 57) = 2 * 10 ^ n - 1 := by
    rw [Dec.dval_cons, h1, List.length_replicate]
    show 1 * _ + _ = _
    omega
  rw [Dec.itoa_nonneg (by omega)]
  show Lib.decDigits (2 * 10 ^ n - 1) = _
  rw [← e]
  refine Dec.decDigits_dval ?_ (by simp) (.inr (by simp))
  intro b hb
  rw [List.mem_cons] at hb
  rcases hb with rfl | hb
  · unfold Dec.IsDigit; decide
  · exact h2 b hb
/-- How long the numeral of a product of powers is. -/
theorem prod_length (m n : Nat) : (Lib.itoa (((10 ^ m * (2 * 10 ^ n - 1) : Nat)) : Int)).length = m + n + 1 := by
  have hp : 0 < 10 ^ n := Nat.pow_pos (by omega)
  have hq : 0 < 10 ^ m := Nat.pow_pos (by omega)
  rw [Dec.itoa_nonneg (by omega)]
  show (Lib.decDigits (10 ^ m * (2 * 10 ^ n - 1))).length = _
  have lo : 10 ^ (m + n) ≤ 10 ^ m * (2 * 10 ^ n - 1) := by
    rw [Nat.pow_add]
    exact Nat.mul_le_mul_left _ (by omega)
  have hi : 10 ^ m * (2 * 10 ^ n - 1) < 10 ^ (m + n + 1) := by
    rw [Nat.pow_succ, Nat.pow_add, Nat.mul_assoc]
    exact Nat.mul_lt_mul_of_pos_left (by omega) hq
  have h1 := (Dec.decDigits_length (10 ^ m * (2 * 10 ^ n - 1)) (m + n + 1) (by omega)).2 hi
  have h2 : ¬ (Lib.decDigits (10 ^ m * (2 * 10 ^ n - 1))).length ≤ m + n := by
    rcases Nat.eq_zero_or_pos (m + n) with h0 | h0
    · intro h
      have := Dec.decDigits_ne (10 ^ m * (2 * 10 ^ n - 1))
      exact this (List.eq_nil_of_length_eq_zero (by omega))
    · intro h
      have := (Dec.decDigits_length _ (m + n) h0).1 h
      omega
  omega
end Go.Proofs.YtkihodadopcioaaGreatDoor
namespace Go.Proofs.YtkihodadopcioaaGreatDoor
open Go.RowKit Go.Shelf

set_option maxRecDepth 100000 in
set_option maxHeartbeats 8000000 in
theorem limits_gzs (a : ByteArray) (m0 n0 : Int) (n : Nat) (x mo nn : List UInt8) (hmo : mo.length ≤ 1000) (hnn : nn.length ≤ 1000) (hn : n < 200) (pr : List UInt8) (hs : (n : Int) < 200) (hpr : ((pr.length : Int) == (n : Int) + 1) = true) (w : World) (ht : Tab w)
    (H1 : ∀ W, Tab W → Calls Tryz.prog 13 #[] W fun e w' => e = .returned (.bool true) ∧ Below W.heap.size W w')
    (H2 : ∀ W, Tab W → Calls Tryz.prog 14 #[.string a, .int .i64 5] W fun e w' => e = .returned (txt x) ∧ Below W.heap.size W w')
    (H3 : ∀ W, Tab W → Calls Tryz.prog 15 #[.int .i64 200] W fun e w' => e = .returned (txt mo) ∧ Below W.heap.size W w')
    (H4 : ∀ W, Tab W → Calls Tryz.prog 16 #[txt mo, txt x] W fun e w' => e = .returned (.tuple #[.string { data := #[] }, .int .i64 30]) ∧ Below W.heap.size W w')
    (H5 : ∀ W, Tab W → Calls Tryz.prog 17 #[.string (⟨#[45]⟩ ++ ⟨mo.toArray⟩), txt x] W fun e w' => e = .returned (.tuple #[.string { data := #[] }, .int .i64 30]) ∧ Below W.heap.size W w')
    (H6 : ∀ W, Tab W → Calls Tryz.prog 18 #[.int .i64 m0, .int .i64 200] W fun e w' => e = .returned (.int .i64 0) ∧ Below W.heap.size W w')
    (H7 : ∀ W, Tab W → Calls Tryz.prog 18 #[.int .i64 n0, .int .i64 200] W fun e w' => e = .returned (.int .i64 (n : Int)) ∧ Below W.heap.size W w')
    (H8 : ∀ W, Tab W → Calls Tryz.prog 15 #[.int .i64 0] W fun e w' => e = .returned (.string { data := #[] }) ∧ Below W.heap.size W w')
    (H9 : ∀ W, Tab W → Calls Tryz.prog 16 #[.string { data := #[] }, .string { data := #[49] }] W fun e w' => e = .returned (.tuple #[.string { data := #[] }, .int .i64 30]) ∧ Below W.heap.size W w')
    (H10 : ∀ W, Tab W → Calls Tryz.prog 16 #[.string { data := #[48] }, .string { data := #[49] }] W fun e w' => e = .returned (.tuple #[.string { data := #[49] }, .int .i64 0]) ∧ Below W.heap.size W w')
    (H11 : ∀ W, Tab W → Calls Tryz.prog 15 #[.int .i64 (n : Int)] W fun e w' => e = .returned (txt nn) ∧ Below W.heap.size W w')
    (H12 : ∀ W, Tab W → Calls Tryz.prog 19 #[.string { data := #[49] }, .string (⟨#[49]⟩ ++ ⟨nn.toArray⟩)] W fun e w' => e = .returned (.tuple #[txt pr, .int .i64 0]) ∧ Below W.heap.size W w')
    (H13 : ∀ W, Tab W → Calls Tryz.prog 20 #[txt x, .string { data := #[48] }] W fun e w' => e = .returned (.int .i64 1) ∧ Below W.heap.size W w')
    (H14 : ∀ W, Tab W → Calls Tryz.prog 21 #[.string (⟨mo.toArray⟩ ++ ⟨#[57]⟩)] W fun e w' => e = .returned (.bool false) ∧ Below W.heap.size W w')
    (H15 : ∀ W, Tab W → Calls Tryz.prog 21 #[.string (⟨#[45]⟩ ++ ⟨mo.toArray⟩)] W fun e w' => e = .returned (.bool true) ∧ Below W.heap.size W w') :
    Calls Tryz.prog 3 #[.string a, .int .i64 m0, .int .i64 n0] w fun e w' => e = .returned (.bool true) ∧ Below w.heap.size w w' := by
  have HT := Lib.hid ht
  have hB := Lib.hid (Below.refl w.heap.size w)
  clear ht
  have G1 := fun W (hW : Tab W) => Lib.hid (H1 W hW)
  have G2 := fun W (hW : Tab W) => Lib.hid (H2 W hW)
  have G3 := fun W (hW : Tab W) => Lib.hid (H3 W hW)
  have G4 := fun W (hW : Tab W) => Lib.hid (H4 W hW)
  have G5 := fun W (hW : Tab W) => Lib.hid (H5 W hW)
  have G6 := fun W (hW : Tab W) => Lib.hid (H6 W hW)
  have G7 := fun W (hW : Tab W) => Lib.hid (H7 W hW)
  have G8 := fun W (hW : Tab W) => Lib.hid (H8 W hW)
  have G9 := fun W (hW : Tab W) => Lib.hid (H9 W hW)
  have G10 := fun W (hW : Tab W) => Lib.hid (H10 W hW)
  have G11 := fun W (hW : Tab W) => Lib.hid (H11 W hW)
  have G12 := fun W (hW : Tab W) => Lib.hid (H12 W hW)
  have G13 := fun W (hW : Tab W) => Lib.hid (H13 W hW)
  have G14 := fun W (hW : Tab W) => Lib.hid (H14 W hW)
  have G15 := fun W (hW : Tab W) => Lib.hid (H15 W hW)
  clear H1 H2 H3 H4 H5 H6 H7 H8 H9 H10 H11 H12 H13 H14 H15
  go_enter Tryz.func3, Tryz.ntmps3
  go_wp2_with fail
  refine (G1 _ HT.out).out.mono ?_
  rintro e w1 ⟨rfl, hb⟩
  replace HT := Lib.hid (HT.out.later hb)
  replace hB := Lib.hid (hB.out.trans (hb.mono hB.out.size))
  clear hb G1
  go_wp2_with fail
  refine (G2 _ HT.out).out.mono ?_
  rintro e w2 ⟨rfl, hb⟩
  replace HT := Lib.hid (HT.out.later hb)
  replace hB := Lib.hid (hB.out.trans (hb.mono hB.out.size))
  clear hb G2
  go_wp2_with fail
  refine (G3 _ HT.out).out.mono ?_
  rintro e w3 ⟨rfl, hb⟩
  replace HT := Lib.hid (HT.out.later hb)
  replace hB := Lib.hid (hB.out.trans (hb.mono hB.out.size))
  clear hb G3
  go_wp2_with fail
  refine (G4 _ HT.out).out.mono ?_
  rintro e w4 ⟨rfl, hb⟩
  replace HT := Lib.hid (HT.out.later hb)
  replace hB := Lib.hid (hB.out.trans (hb.mono hB.out.size))
  clear hb G4
  go_wp2_with fail
  refine (G5 _ HT.out).out.mono ?_
  rintro e w5 ⟨rfl, hb⟩
  replace HT := Lib.hid (HT.out.later hb)
  replace hB := Lib.hid (hB.out.trans (hb.mono hB.out.size))
  clear hb G5
  go_wp2_with fail
  refine (G6 _ HT.out).out.mono ?_
  rintro e w6 ⟨rfl, hb⟩
  replace HT := Lib.hid (HT.out.later hb)
  replace hB := Lib.hid (hB.out.trans (hb.mono hB.out.size))
  clear hb G6
  go_wp2_with fail
  refine (G7 _ HT.out).out.mono ?_
  rintro e w7 ⟨rfl, hb⟩
  replace HT := Lib.hid (HT.out.later hb)
  replace hB := Lib.hid (hB.out.trans (hb.mono hB.out.size))
  clear hb G7
  go_wp2_with fail
  refine (G8 _ HT.out).out.mono ?_
  rintro e w8 ⟨rfl, hb⟩
  replace HT := Lib.hid (HT.out.later hb)
  replace hB := Lib.hid (hB.out.trans (hb.mono hB.out.size))
  clear hb G8
  go_wp2_with fail
  refine (G9 _ HT.out).out.mono ?_
  rintro e w9 ⟨rfl, hb⟩
  replace HT := Lib.hid (HT.out.later hb)
  replace hB := Lib.hid (hB.out.trans (hb.mono hB.out.size))
  clear hb G9
  go_wp2_with fail
  refine (G10 _ HT.out).out.mono ?_
  rintro e w10 ⟨rfl, hb⟩
  replace HT := Lib.hid (HT.out.later hb)
  replace hB := Lib.hid (hB.out.trans (hb.mono hB.out.size))
  clear hb G10
  go_wp2_with fail
  refine (G11 _ HT.out).out.mono ?_
  rintro e w11 ⟨rfl, hb⟩
  replace HT := Lib.hid (HT.out.later hb)
  replace hB := Lib.hid (hB.out.trans (hb.mono hB.out.size))
  clear hb G11
  go_wp2_with fail
  refine (G12 _ HT.out).out.mono ?_
  rintro e w12 ⟨rfl, hb⟩
  replace HT := Lib.hid (HT.out.later hb)
  replace hB := Lib.hid (hB.out.trans (hb.mono hB.out.size))
  clear hb G12
  go_wp2_with fail
  refine (G13 _ HT.out).out.mono ?_
  rintro e w13 ⟨rfl, hb⟩
  replace HT := Lib.hid (HT.out.later hb)
  replace hB := Lib.hid (hB.out.trans (hb.mono hB.out.size))
  clear hb G13
  go_wp2_with fail
  refine (G14 _ HT.out).out.mono ?_
  rintro e w14 ⟨rfl, hb⟩
  replace HT := Lib.hid (HT.out.later hb)
  replace hB := Lib.hid (hB.out.trans (hb.mono hB.out.size))
  clear hb G14
  go_wp2_with fail
  refine (G15 _ HT.out).out.mono ?_
  rintro e w15 ⟨rfl, hb⟩
  replace HT := Lib.hid (HT.out.later hb)
  replace hB := Lib.hid (hB.out.trans (hb.mono hB.out.size))
  clear hb G15
  go_wp2
  go_ret
  exact ⟨rfl, hB.out⟩

set_option maxRecDepth 100000 in
set_option maxHeartbeats 8000000 in
theorem limits_gps (a : ByteArray) (m0 n0 : Int) (n : Nat) (x mo nn : List UInt8) (hmo : mo.length ≤ 1000) (hnn : nn.length ≤ 1000) (hn : n < 200) (m : Nat) (nm on : List UInt8) (hm : m < 200) (hm0 : 0 < m) (pr : List UInt8) (hs : (m : Int) + n < 200) (hpr : ((pr.length : Int) == (m : Int) + n + 1) = true) (w : World) (ht : Tab w)
    (H1 : ∀ W, Tab W → Calls Tryz.prog 13 #[] W fun e w' => e = .returned (.bool true) ∧ Below W.heap.size W w')
    (H2 : ∀ W, Tab W → Calls Tryz.prog 14 #[.string a, .int .i64 5] W fun e w' => e = .returned (txt x) ∧ Below W.heap.size W w')
    (H3 : ∀ W, Tab W → Calls Tryz.prog 15 #[.int .i64 200] W fun e w' => e = .returned (txt mo) ∧ Below W.heap.size W w')
    (H4 : ∀ W, Tab W → Calls Tryz.prog 16 #[txt mo, txt x] W fun e w' => e = .returned (.tuple #[.string { data := #[] }, .int .i64 30]) ∧ Below W.heap.size W w')
    (H5 : ∀ W, Tab W → Calls Tryz.prog 17 #[.string (⟨#[45]⟩ ++ ⟨mo.toArray⟩), txt x] W fun e w' => e = .returned (.tuple #[.string { data := #[] }, .int .i64 30]) ∧ Below W.heap.size W w')
    (H6 : ∀ W, Tab W → Calls Tryz.prog 18 #[.int .i64 m0, .int .i64 200] W fun e w' => e = .returned (.int .i64 (m : Int)) ∧ Below W.heap.size W w')
    (H7 : ∀ W, Tab W → Calls Tryz.prog 18 #[.int .i64 n0, .int .i64 200] W fun e w' => e = .returned (.int .i64 (n : Int)) ∧ Below W.heap.size W w')
    (H8 : ∀ W, Tab W → Calls Tryz.prog 15 #[.int .i64 (m : Int)] W fun e w' => e = .returned (txt nm) ∧ Below W.heap.size W w')
    (H9 : ∀ W, Tab W → Calls Tryz.prog 16 #[txt nm, .string { data := #[49] }] W fun e w' => e = .returned (.tuple #[txt on, .int .i64 0]) ∧ Below W.heap.size W w')
    (H10 : ∀ W, Tab W → Calls Tryz.prog 15 #[.int .i64 (n : Int)] W fun e w' => e = .returned (txt nn) ∧ Below W.heap.size W w')
    (H11 : ∀ W, Tab W → Calls Tryz.prog 19 #[txt on, .string (⟨#[49]⟩ ++ ⟨nn.toArray⟩)] W fun e w' => e = .returned (.tuple #[txt pr, .int .i64 0]) ∧ Below W.heap.size W w')
    (H12 : ∀ W, Tab W → Calls Tryz.prog 20 #[txt x, .string { data := #[48] }] W fun e w' => e = .returned (.int .i64 1) ∧ Below W.heap.size W w')
    (H13 : ∀ W, Tab W → Calls Tryz.prog 21 #[.string (⟨mo.toArray⟩ ++ ⟨#[57]⟩)] W fun e w' => e = .returned (.bool false) ∧ Below W.heap.size W w')
    (H14 : ∀ W, Tab W → Calls Tryz.prog 21 #[.string (⟨#[45]⟩ ++ ⟨mo.toArray⟩)] W fun e w' => e = .returned (.bool true) ∧ Below W.heap.size W w') :
    Calls Tryz.prog 3 #[.string a, .int .i64 m0, .int .i64 n0] w fun e w' => e = .returned (.bool true) ∧ Below w.heap.size w w' := by
  have HT := Lib.hid ht
  have hB := Lib.hid (Below.refl w.heap.size w)
  clear ht
  have G1 := fun W (hW : Tab W) => Lib.hid (H1 W hW)
  have G2 := fun W (hW : Tab W) => Lib.hid (H2 W hW)
  have G3 := fun W (hW : Tab W) => Lib.hid (H3 W hW)
  have G4 := fun W (hW : Tab W) => Lib.hid (H4 W hW)
  have G5 := fun W (hW : Tab W) => Lib.hid (H5 W hW)
  have G6 := fun W (hW : Tab W) => Lib.hid (H6 W hW)
  have G7 := fun W (hW : Tab W) => Lib.hid (H7 W hW)
  have G8 := fun W (hW : Tab W) => Lib.hid (H8 W hW)
  have G9 := fun W (hW : Tab W) => Lib.hid (H9 W hW)
  have G10 := fun W (hW : Tab W) => Lib.hid (H10 W hW)
  have G11 := fun W (hW : Tab W) => Lib.hid (H11 W hW)
  have G12 := fun W (hW : Tab W) => Lib.hid (H12 W hW)
  have G13 := fun W (hW : Tab W) => Lib.hid (H13 W hW)
  have G14 := fun W (hW : Tab W) => Lib.hid (H14 W hW)
  clear H1 H2 H3 H4 H5 H6 H7 H8 H9 H10 H11 H12 H13 H14
  go_enter Tryz.func3, Tryz.ntmps3
  go_wp2_with fail
  refine (G1 _ HT.out).out.mono ?_
  rintro e w1 ⟨rfl, hb⟩
  replace HT := Lib.hid (HT.out.later hb)
  replace hB := Lib.hid (hB.out.trans (hb.mono hB.out.size))
  clear hb G1
  go_wp2_with fail
  refine (G2 _ HT.out).out.mono ?_
  rintro e w2 ⟨rfl, hb⟩
  replace HT := Lib.hid (HT.out.later hb)
  replace hB := Lib.hid (hB.out.trans (hb.mono hB.out.size))
  clear hb G2
  go_wp2_with fail
  refine (G3 _ HT.out).out.mono ?_
  rintro e w3 ⟨rfl, hb⟩
  replace HT := Lib.hid (HT.out.later hb)
  replace hB := Lib.hid (hB.out.trans (hb.mono hB.out.size))
  clear hb G3
  go_wp2_with fail
  refine (G4 _ HT.out).out.mono ?_
  rintro e w4 ⟨rfl, hb⟩
  replace HT := Lib.hid (HT.out.later hb)
  replace hB := Lib.hid (hB.out.trans (hb.mono hB.out.size))
  clear hb G4
  go_wp2_with fail
  refine (G5 _ HT.out).out.mono ?_
  rintro e w5 ⟨rfl, hb⟩
  replace HT := Lib.hid (HT.out.later hb)
  replace hB := Lib.hid (hB.out.trans (hb.mono hB.out.size))
  clear hb G5
  go_wp2_with fail
  refine (G6 _ HT.out).out.mono ?_
  rintro e w6 ⟨rfl, hb⟩
  replace HT := Lib.hid (HT.out.later hb)
  replace hB := Lib.hid (hB.out.trans (hb.mono hB.out.size))
  clear hb G6
  go_wp2_with fail
  refine (G7 _ HT.out).out.mono ?_
  rintro e w7 ⟨rfl, hb⟩
  replace HT := Lib.hid (HT.out.later hb)
  replace hB := Lib.hid (hB.out.trans (hb.mono hB.out.size))
  clear hb G7
  go_wp2_with fail
  refine (G8 _ HT.out).out.mono ?_
  rintro e w8 ⟨rfl, hb⟩
  replace HT := Lib.hid (HT.out.later hb)
  replace hB := Lib.hid (hB.out.trans (hb.mono hB.out.size))
  clear hb G8
  go_wp2_with fail
  refine (G9 _ HT.out).out.mono ?_
  rintro e w9 ⟨rfl, hb⟩
  replace HT := Lib.hid (HT.out.later hb)
  replace hB := Lib.hid (hB.out.trans (hb.mono hB.out.size))
  clear hb G9
  go_wp2_with fail
  refine (G10 _ HT.out).out.mono ?_
  rintro e w10 ⟨rfl, hb⟩
  replace HT := Lib.hid (HT.out.later hb)
  replace hB := Lib.hid (hB.out.trans (hb.mono hB.out.size))
  clear hb G10
  go_wp2_with fail
  refine (G11 _ HT.out).out.mono ?_
  rintro e w11 ⟨rfl, hb⟩
  replace HT := Lib.hid (HT.out.later hb)
  replace hB := Lib.hid (hB.out.trans (hb.mono hB.out.size))
  clear hb G11
  go_wp2_with fail
  refine (G12 _ HT.out).out.mono ?_
  rintro e w12 ⟨rfl, hb⟩
  replace HT := Lib.hid (HT.out.later hb)
  replace hB := Lib.hid (hB.out.trans (hb.mono hB.out.size))
  clear hb G12
  go_wp2_with fail
  refine (G13 _ HT.out).out.mono ?_
  rintro e w13 ⟨rfl, hb⟩
  replace HT := Lib.hid (HT.out.later hb)
  replace hB := Lib.hid (hB.out.trans (hb.mono hB.out.size))
  clear hb G13
  go_wp2_with fail
  refine (G14 _ HT.out).out.mono ?_
  rintro e w14 ⟨rfl, hb⟩
  replace HT := Lib.hid (HT.out.later hb)
  replace hB := Lib.hid (hB.out.trans (hb.mono hB.out.size))
  clear hb G14
  go_wp2
  go_ret
  exact ⟨rfl, hB.out⟩

set_option maxRecDepth 100000 in
set_option maxHeartbeats 8000000 in
theorem limits_gpb (a : ByteArray) (m0 n0 : Int) (n : Nat) (x mo nn : List UInt8) (hmo : mo.length ≤ 1000) (hnn : nn.length ≤ 1000) (hn : n < 200) (m : Nat) (nm on : List UInt8) (hm : m < 200) (hm0 : 0 < m) (hs : 200 ≤ (m : Int) + n) (w : World) (ht : Tab w)
    (H1 : ∀ W, Tab W → Calls Tryz.prog 13 #[] W fun e w' => e = .returned (.bool true) ∧ Below W.heap.size W w')
    (H2 : ∀ W, Tab W → Calls Tryz.prog 14 #[.string a, .int .i64 5] W fun e w' => e = .returned (txt x) ∧ Below W.heap.size W w')
    (H3 : ∀ W, Tab W → Calls Tryz.prog 15 #[.int .i64 200] W fun e w' => e = .returned (txt mo) ∧ Below W.heap.size W w')
    (H4 : ∀ W, Tab W → Calls Tryz.prog 16 #[txt mo, txt x] W fun e w' => e = .returned (.tuple #[.string { data := #[] }, .int .i64 30]) ∧ Below W.heap.size W w')
    (H5 : ∀ W, Tab W → Calls Tryz.prog 17 #[.string (⟨#[45]⟩ ++ ⟨mo.toArray⟩), txt x] W fun e w' => e = .returned (.tuple #[.string { data := #[] }, .int .i64 30]) ∧ Below W.heap.size W w')
    (H6 : ∀ W, Tab W → Calls Tryz.prog 18 #[.int .i64 m0, .int .i64 200] W fun e w' => e = .returned (.int .i64 (m : Int)) ∧ Below W.heap.size W w')
    (H7 : ∀ W, Tab W → Calls Tryz.prog 18 #[.int .i64 n0, .int .i64 200] W fun e w' => e = .returned (.int .i64 (n : Int)) ∧ Below W.heap.size W w')
    (H8 : ∀ W, Tab W → Calls Tryz.prog 15 #[.int .i64 (m : Int)] W fun e w' => e = .returned (txt nm) ∧ Below W.heap.size W w')
    (H9 : ∀ W, Tab W → Calls Tryz.prog 16 #[txt nm, .string { data := #[49] }] W fun e w' => e = .returned (.tuple #[txt on, .int .i64 0]) ∧ Below W.heap.size W w')
    (H10 : ∀ W, Tab W → Calls Tryz.prog 15 #[.int .i64 (n : Int)] W fun e w' => e = .returned (txt nn) ∧ Below W.heap.size W w')
    (H11 : ∀ W, Tab W → Calls Tryz.prog 19 #[txt on, .string (⟨#[49]⟩ ++ ⟨nn.toArray⟩)] W fun e w' => e = .returned (.tuple #[.string { data := #[] }, .int .i64 30]) ∧ Below W.heap.size W w')
    (H12 : ∀ W, Tab W → Calls Tryz.prog 20 #[txt x, .string { data := #[48] }] W fun e w' => e = .returned (.int .i64 1) ∧ Below W.heap.size W w')
    (H13 : ∀ W, Tab W → Calls Tryz.prog 21 #[.string (⟨mo.toArray⟩ ++ ⟨#[57]⟩)] W fun e w' => e = .returned (.bool false) ∧ Below W.heap.size W w')
    (H14 : ∀ W, Tab W → Calls Tryz.prog 21 #[.string (⟨#[45]⟩ ++ ⟨mo.toArray⟩)] W fun e w' => e = .returned (.bool true) ∧ Below W.heap.size W w') :
    Calls Tryz.prog 3 #[.string a, .int .i64 m0, .int .i64 n0] w fun e w' => e = .returned (.bool true) ∧ Below w.heap.size w w' := by
  have HT := Lib.hid ht
  have hB := Lib.hid (Below.refl w.heap.size w)
  clear ht
  have G1 := fun W (hW : Tab W) => Lib.hid (H1 W hW)
  have G2 := fun W (hW : Tab W) => Lib.hid (H2 W hW)
  have G3 := fun W (hW : Tab W) => Lib.hid (H3 W hW)
  have G4 := fun W (hW : Tab W) => Lib.hid (H4 W hW)
  have G5 := fun W (hW : Tab W) => Lib.hid (H5 W hW)
  have G6 := fun W (hW : Tab W) => Lib.hid (H6 W hW)
  have G7 := fun W (hW : Tab W) => Lib.hid (H7 W hW)
  have G8 := fun W (hW : Tab W) => Lib.hid (H8 W hW)
  have G9 := fun W (hW : Tab W) => Lib.hid (H9 W hW)
  have G10 := fun W (hW : Tab W) => Lib.hid (H10 W hW)
  have G11 := fun W (hW : Tab W) => Lib.hid (H11 W hW)
  have G12 := fun W (hW : Tab W) => Lib.hid (H12 W hW)
  have G13 := fun W (hW : Tab W) => Lib.hid (H13 W hW)
  have G14 := fun W (hW : Tab W) => Lib.hid (H14 W hW)
  clear H1 H2 H3 H4 H5 H6 H7 H8 H9 H10 H11 H12 H13 H14
  go_enter Tryz.func3, Tryz.ntmps3
  go_wp2_with fail
  refine (G1 _ HT.out).out.mono ?_
  rintro e w1 ⟨rfl, hb⟩
  replace HT := Lib.hid (HT.out.later hb)
  replace hB := Lib.hid (hB.out.trans (hb.mono hB.out.size))
  clear hb G1
  go_wp2_with fail
  refine (G2 _ HT.out).out.mono ?_
  rintro e w2 ⟨rfl, hb⟩
  replace HT := Lib.hid (HT.out.later hb)
  replace hB := Lib.hid (hB.out.trans (hb.mono hB.out.size))
  clear hb G2
  go_wp2_with fail
  refine (G3 _ HT.out).out.mono ?_
  rintro e w3 ⟨rfl, hb⟩
  replace HT := Lib.hid (HT.out.later hb)
  replace hB := Lib.hid (hB.out.trans (hb.mono hB.out.size))
  clear hb G3
  go_wp2_with fail
  refine (G4 _ HT.out).out.mono ?_
  rintro e w4 ⟨rfl, hb⟩
  replace HT := Lib.hid (HT.out.later hb)
  replace hB := Lib.hid (hB.out.trans (hb.mono hB.out.size))
  clear hb G4
  go_wp2_with fail
  refine (G5 _ HT.out).out.mono ?_
  rintro e w5 ⟨rfl, hb⟩
  replace HT := Lib.hid (HT.out.later hb)
  replace hB := Lib.hid (hB.out.trans (hb.mono hB.out.size))
  clear hb G5
  go_wp2_with fail
  refine (G6 _ HT.out).out.mono ?_
  rintro e w6 ⟨rfl, hb⟩
  replace HT := Lib.hid (HT.out.later hb)
  replace hB := Lib.hid (hB.out.trans (hb.mono hB.out.size))
  clear hb G6
  go_wp2_with fail
  refine (G7 _ HT.out).out.mono ?_
  rintro e w7 ⟨rfl, hb⟩
  replace HT := Lib.hid (HT.out.later hb)
  replace hB := Lib.hid (hB.out.trans (hb.mono hB.out.size))
  clear hb G7
  go_wp2_with fail
  refine (G8 _ HT.out).out.mono ?_
  rintro e w8 ⟨rfl, hb⟩
  replace HT := Lib.hid (HT.out.later hb)
  replace hB := Lib.hid (hB.out.trans (hb.mono hB.out.size))
  clear hb G8
  go_wp2_with fail
  refine (G9 _ HT.out).out.mono ?_
  rintro e w9 ⟨rfl, hb⟩
  replace HT := Lib.hid (HT.out.later hb)
  replace hB := Lib.hid (hB.out.trans (hb.mono hB.out.size))
  clear hb G9
  go_wp2_with fail
  refine (G10 _ HT.out).out.mono ?_
  rintro e w10 ⟨rfl, hb⟩
  replace HT := Lib.hid (HT.out.later hb)
  replace hB := Lib.hid (hB.out.trans (hb.mono hB.out.size))
  clear hb G10
  go_wp2_with fail
  refine (G11 _ HT.out).out.mono ?_
  rintro e w11 ⟨rfl, hb⟩
  replace HT := Lib.hid (HT.out.later hb)
  replace hB := Lib.hid (hB.out.trans (hb.mono hB.out.size))
  clear hb G11
  go_wp2_with fail
  refine (G12 _ HT.out).out.mono ?_
  rintro e w12 ⟨rfl, hb⟩
  replace HT := Lib.hid (HT.out.later hb)
  replace hB := Lib.hid (hB.out.trans (hb.mono hB.out.size))
  clear hb G12
  go_wp2_with fail
  refine (G13 _ HT.out).out.mono ?_
  rintro e w13 ⟨rfl, hb⟩
  replace HT := Lib.hid (HT.out.later hb)
  replace hB := Lib.hid (hB.out.trans (hb.mono hB.out.size))
  clear hb G13
  go_wp2_with fail
  refine (G14 _ HT.out).out.mono ?_
  rintro e w14 ⟨rfl, hb⟩
  replace HT := Lib.hid (HT.out.later hb)
  replace hB := Lib.hid (hB.out.trans (hb.mono hB.out.size))
  clear hb G14
  go_wp2
  go_ret
  exact ⟨rfl, hB.out⟩

set_option maxRecDepth 100000 in
set_option maxHeartbeats 8000000 in
theorem limits_lzs (a : ByteArray) (m0 n0 : Int) (n : Nat) (x mo nn : List UInt8) (hmo : mo.length ≤ 1000) (hnn : nn.length ≤ 1000) (hn : n < 200) (sm df : List UInt8) (c : Int) (hc : c ≤ 0) (pr : List UInt8) (hs : (n : Int) < 200) (hpr : ((pr.length : Int) == (n : Int) + 1) = true) (w : World) (ht : Tab w)
    (H1 : ∀ W, Tab W → Calls Tryz.prog 13 #[] W fun e w' => e = .returned (.bool true) ∧ Below W.heap.size W w')
    (H2 : ∀ W, Tab W → Calls Tryz.prog 14 #[.string a, .int .i64 5] W fun e w' => e = .returned (txt x) ∧ Below W.heap.size W w')
    (H3 : ∀ W, Tab W → Calls Tryz.prog 15 #[.int .i64 200] W fun e w' => e = .returned (txt mo) ∧ Below W.heap.size W w')
    (H4 : ∀ W, Tab W → Calls Tryz.prog 16 #[txt mo, txt x] W fun e w' => e = .returned (.tuple #[txt sm, .int .i64 0]) ∧ Below W.heap.size W w')
    (H5 : ∀ W, Tab W → Calls Tryz.prog 17 #[.string (⟨#[45]⟩ ++ ⟨mo.toArray⟩), txt x] W fun e w' => e = .returned (.tuple #[txt df, .int .i64 0]) ∧ Below W.heap.size W w')
    (H6 : ∀ W, Tab W → Calls Tryz.prog 18 #[.int .i64 m0, .int .i64 200] W fun e w' => e = .returned (.int .i64 0) ∧ Below W.heap.size W w')
    (H7 : ∀ W, Tab W → Calls Tryz.prog 18 #[.int .i64 n0, .int .i64 200] W fun e w' => e = .returned (.int .i64 (n : Int)) ∧ Below W.heap.size W w')
    (H8 : ∀ W, Tab W → Calls Tryz.prog 15 #[.int .i64 0] W fun e w' => e = .returned (.string { data := #[] }) ∧ Below W.heap.size W w')
    (H9 : ∀ W, Tab W → Calls Tryz.prog 16 #[.string { data := #[] }, .string { data := #[49] }] W fun e w' => e = .returned (.tuple #[.string { data := #[] }, .int .i64 30]) ∧ Below W.heap.size W w')
    (H10 : ∀ W, Tab W → Calls Tryz.prog 16 #[.string { data := #[48] }, .string { data := #[49] }] W fun e w' => e = .returned (.tuple #[.string { data := #[49] }, .int .i64 0]) ∧ Below W.heap.size W w')
    (H11 : ∀ W, Tab W → Calls Tryz.prog 15 #[.int .i64 (n : Int)] W fun e w' => e = .returned (txt nn) ∧ Below W.heap.size W w')
    (H12 : ∀ W, Tab W → Calls Tryz.prog 19 #[.string { data := #[49] }, .string (⟨#[49]⟩ ++ ⟨nn.toArray⟩)] W fun e w' => e = .returned (.tuple #[txt pr, .int .i64 0]) ∧ Below W.heap.size W w')
    (H13 : ∀ W, Tab W → Calls Tryz.prog 20 #[txt x, .string { data := #[48] }] W fun e w' => e = .returned (.int .i64 c) ∧ Below W.heap.size W w')
    (H14 : ∀ W, Tab W → Calls Tryz.prog 21 #[.string (⟨mo.toArray⟩ ++ ⟨#[57]⟩)] W fun e w' => e = .returned (.bool false) ∧ Below W.heap.size W w')
    (H15 : ∀ W, Tab W → Calls Tryz.prog 21 #[.string (⟨#[45]⟩ ++ ⟨mo.toArray⟩)] W fun e w' => e = .returned (.bool true) ∧ Below W.heap.size W w') :
    Calls Tryz.prog 3 #[.string a, .int .i64 m0, .int .i64 n0] w fun e w' => e = .returned (.bool true) ∧ Below w.heap.size w w' := by
  have HT := Lib.hid ht
  have hB := Lib.hid (Below.refl w.heap.size w)
  clear ht
  have G1 := fun W (hW : Tab W) => Lib.hid (H1 W hW)
  have G2 := fun W (hW : Tab W) => Lib.hid (H2 W hW)
  have G3 := fun W (hW : Tab W) => Lib.hid (H3 W hW)
  have G4 := fun W (hW : Tab W) => Lib.hid (H4 W hW)
  have G5 := fun W (hW : Tab W) => Lib.hid (H5 W hW)
  have G6 := fun W (hW : Tab W) => Lib.hid (H6 W hW)
  have G7 := fun W (hW : Tab W) => Lib.hid (H7 W hW)
  have G8 := fun W (hW : Tab W) => Lib.hid (H8 W hW)
  have G9 := fun W (hW : Tab W) => Lib.hid (H9 W hW)
  have G10 := fun W (hW : Tab W) => Lib.hid (H10 W hW)
  have G11 := fun W (hW : Tab W) => Lib.hid (H11 W hW)
  have G12 := fun W (hW : Tab W) => Lib.hid (H12 W hW)
  have G13 := fun W (hW : Tab W) => Lib.hid (H13 W hW)
  have G14 := fun W (hW : Tab W) => Lib.hid (H14 W hW)
  have G15 := fun W (hW : Tab W) => Lib.hid (H15 W hW)
  clear H1 H2 H3 H4 H5 H6 H7 H8 H9 H10 H11 H12 H13 H14 H15
  go_enter Tryz.func3, Tryz.ntmps3
  go_wp2_with fail
  refine (G1 _ HT.out).out.mono ?_
  rintro e w1 ⟨rfl, hb⟩
  replace HT := Lib.hid (HT.out.later hb)
  replace hB := Lib.hid (hB.out.trans (hb.mono hB.out.size))
  clear hb G1
  go_wp2_with fail
  refine (G2 _ HT.out).out.mono ?_
  rintro e w2 ⟨rfl, hb⟩
  replace HT := Lib.hid (HT.out.later hb)
  replace hB := Lib.hid (hB.out.trans (hb.mono hB.out.size))
  clear hb G2
  go_wp2_with fail
  refine (G3 _ HT.out).out.mono ?_
  rintro e w3 ⟨rfl, hb⟩
  replace HT := Lib.hid (HT.out.later hb)
  replace hB := Lib.hid (hB.out.trans (hb.mono hB.out.size))
  clear hb G3
  go_wp2_with fail
  refine (G4 _ HT.out).out.mono ?_
  rintro e w4 ⟨rfl, hb⟩
  replace HT := Lib.hid (HT.out.later hb)
  replace hB := Lib.hid (hB.out.trans (hb.mono hB.out.size))
  clear hb G4
  go_wp2_with fail
  refine (G5 _ HT.out).out.mono ?_
  rintro e w5 ⟨rfl, hb⟩
  replace HT := Lib.hid (HT.out.later hb)
  replace hB := Lib.hid (hB.out.trans (hb.mono hB.out.size))
  clear hb G5
  go_wp2_with fail
  refine (G6 _ HT.out).out.mono ?_
  rintro e w6 ⟨rfl, hb⟩
  replace HT := Lib.hid (HT.out.later hb)
  replace hB := Lib.hid (hB.out.trans (hb.mono hB.out.size))
  clear hb G6
  go_wp2_with fail
  refine (G7 _ HT.out).out.mono ?_
  rintro e w7 ⟨rfl, hb⟩
  replace HT := Lib.hid (HT.out.later hb)
  replace hB := Lib.hid (hB.out.trans (hb.mono hB.out.size))
  clear hb G7
  go_wp2_with fail
  refine (G8 _ HT.out).out.mono ?_
  rintro e w8 ⟨rfl, hb⟩
  replace HT := Lib.hid (HT.out.later hb)
  replace hB := Lib.hid (hB.out.trans (hb.mono hB.out.size))
  clear hb G8
  go_wp2_with fail
  refine (G9 _ HT.out).out.mono ?_
  rintro e w9 ⟨rfl, hb⟩
  replace HT := Lib.hid (HT.out.later hb)
  replace hB := Lib.hid (hB.out.trans (hb.mono hB.out.size))
  clear hb G9
  go_wp2_with fail
  refine (G10 _ HT.out).out.mono ?_
  rintro e w10 ⟨rfl, hb⟩
  replace HT := Lib.hid (HT.out.later hb)
  replace hB := Lib.hid (hB.out.trans (hb.mono hB.out.size))
  clear hb G10
  go_wp2_with fail
  refine (G11 _ HT.out).out.mono ?_
  rintro e w11 ⟨rfl, hb⟩
  replace HT := Lib.hid (HT.out.later hb)
  replace hB := Lib.hid (hB.out.trans (hb.mono hB.out.size))
  clear hb G11
  go_wp2_with fail
  refine (G12 _ HT.out).out.mono ?_
  rintro e w12 ⟨rfl, hb⟩
  replace HT := Lib.hid (HT.out.later hb)
  replace hB := Lib.hid (hB.out.trans (hb.mono hB.out.size))
  clear hb G12
  go_wp2_with fail
  refine (G13 _ HT.out).out.mono ?_
  rintro e w13 ⟨rfl, hb⟩
  replace HT := Lib.hid (HT.out.later hb)
  replace hB := Lib.hid (hB.out.trans (hb.mono hB.out.size))
  clear hb G13
  go_wp2_with fail
  refine (G14 _ HT.out).out.mono ?_
  rintro e w14 ⟨rfl, hb⟩
  replace HT := Lib.hid (HT.out.later hb)
  replace hB := Lib.hid (hB.out.trans (hb.mono hB.out.size))
  clear hb G14
  go_wp2_with fail
  refine (G15 _ HT.out).out.mono ?_
  rintro e w15 ⟨rfl, hb⟩
  replace HT := Lib.hid (HT.out.later hb)
  replace hB := Lib.hid (hB.out.trans (hb.mono hB.out.size))
  clear hb G15
  go_wp2
  go_ret
  exact ⟨rfl, hB.out⟩

set_option maxRecDepth 100000 in
set_option maxHeartbeats 8000000 in
theorem limits_lps (a : ByteArray) (m0 n0 : Int) (n : Nat) (x mo nn : List UInt8) (hmo : mo.length ≤ 1000) (hnn : nn.length ≤ 1000) (hn : n < 200) (m : Nat) (nm on : List UInt8) (hm : m < 200) (hm0 : 0 < m) (sm df : List UInt8) (c : Int) (hc : c ≤ 0) (pr : List UInt8) (hs : (m : Int) + n < 200) (hpr : ((pr.length : Int) == (m : Int) + n + 1) = true) (w : World) (ht : Tab w)
    (H1 : ∀ W, Tab W → Calls Tryz.prog 13 #[] W fun e w' => e = .returned (.bool true) ∧ Below W.heap.size W w')
    (H2 : ∀ W, Tab W → Calls Tryz.prog 14 #[.string a, .int .i64 5] W fun e w' => e = .returned (txt x) ∧ Below W.heap.size W w')
    (H3 : ∀ W, Tab W → Calls Tryz.prog 15 #[.int .i64 200] W fun e w' => e = .returned (txt mo) ∧ Below W.heap.size W w')
    (H4 : ∀ W, Tab W → Calls Tryz.prog 16 #[txt mo, txt x] W fun e w' => e = .returned (.tuple #[txt sm, .int .i64 0]) ∧ Below W.heap.size W w')
    (H5 : ∀ W, Tab W → Calls Tryz.prog 17 #[.string (⟨#[45]⟩ ++ ⟨mo.toArray⟩), txt x] W fun e w' => e = .returned (.tuple #[txt df, .int .i64 0]) ∧ Below W.heap.size W w')
    (H6 : ∀ W, Tab W → Calls Tryz.prog 18 #[.int .i64 m0, .int .i64 200] W fun e w' => e = .returned (.int .i64 (m : Int)) ∧ Below W.heap.size W w')
    (H7 : ∀ W, Tab W → Calls Tryz.prog 18 #[.int .i64 n0, .int .i64 200] W fun e w' => e = .returned (.int .i64 (n : Int)) ∧ Below W.heap.size W w')
    (H8 : ∀ W, Tab W → Calls Tryz.prog 15 #[.int .i64 (m : Int)] W fun e w' => e = .returned (txt nm) ∧ Below W.heap.size W w')
    (H9 : ∀ W, Tab W → Calls Tryz.prog 16 #[txt nm, .string { data := #[49] }] W fun e w' => e = .returned (.tuple #[txt on, .int .i64 0]) ∧ Below W.heap.size W w')
    (H10 : ∀ W, Tab W → Calls Tryz.prog 15 #[.int .i64 (n : Int)] W fun e w' => e = .returned (txt nn) ∧ Below W.heap.size W w')
    (H11 : ∀ W, Tab W → Calls Tryz.prog 19 #[txt on, .string (⟨#[49]⟩ ++ ⟨nn.toArray⟩)] W fun e w' => e = .returned (.tuple #[txt pr, .int .i64 0]) ∧ Below W.heap.size W w')
    (H12 : ∀ W, Tab W → Calls Tryz.prog 20 #[txt x, .string { data := #[48] }] W fun e w' => e = .returned (.int .i64 c) ∧ Below W.heap.size W w')
    (H13 : ∀ W, Tab W → Calls Tryz.prog 21 #[.string (⟨mo.toArray⟩ ++ ⟨#[57]⟩)] W fun e w' => e = .returned (.bool false) ∧ Below W.heap.size W w')
    (H14 : ∀ W, Tab W → Calls Tryz.prog 21 #[.string (⟨#[45]⟩ ++ ⟨mo.toArray⟩)] W fun e w' => e = .returned (.bool true) ∧ Below W.heap.size W w') :
    Calls Tryz.prog 3 #[.string a, .int .i64 m0, .int .i64 n0] w fun e w' => e = .returned (.bool true) ∧ Below w.heap.size w w' := by
  have HT := Lib.hid ht
  have hB := Lib.hid (Below.refl w.heap.size w)
  clear ht
  have G1 := fun W (hW : Tab W) => Lib.hid (H1 W hW)
  have G2 := fun W (hW : Tab W) => Lib.hid (H2 W hW)
  have G3 := fun W (hW : Tab W) => Lib.hid (H3 W hW)
  have G4 := fun W (hW : Tab W) => Lib.hid (H4 W hW)
  have G5 := fun W (hW : Tab W) => Lib.hid (H5 W hW)
  have G6 := fun W (hW : Tab W) => Lib.hid (H6 W hW)
  have G7 := fun W (hW : Tab W) => Lib.hid (H7 W hW)
  have G8 := fun W (hW : Tab W) => Lib.hid (H8 W hW)
  have G9 := fun W (hW : Tab W) => Lib.hid (H9 W hW)
  have G10 := fun W (hW : Tab W) => Lib.hid (H10 W hW)
  have G11 := fun W (hW : Tab W) => Lib.hid (H11 W hW)
  have G12 := fun W (hW : Tab W) => Lib.hid (H12 W hW)
  have G13 := fun W (hW : Tab W) => Lib.hid (H13 W hW)
  have G14 := fun W (hW : Tab W) => Lib.hid (H14 W hW)
  clear H1 H2 H3 H4 H5 H6 H7 H8 H9 H10 H11 H12 H13 H14
  go_enter Tryz.func3, Tryz.ntmps3
  go_wp2_with fail
  refine (G1 _ HT.out).out.mono ?_
  rintro e w1 ⟨rfl, hb⟩
  replace HT := Lib.hid (HT.out.later hb)
  replace hB := Lib.hid (hB.out.trans (hb.mono hB.out.size))
  clear hb G1
  go_wp2_with fail
  refine (G2 _ HT.out).out.mono ?_
  rintro e w2 ⟨rfl, hb⟩
  replace HT := Lib.hid (HT.out.later hb)
  replace hB := Lib.hid (hB.out.trans (hb.mono hB.out.size))
  clear hb G2
  go_wp2_with fail
  refine (G3 _ HT.out).out.mono ?_
  rintro e w3 ⟨rfl, hb⟩
  replace HT := Lib.hid (HT.out.later hb)
  replace hB := Lib.hid (hB.out.trans (hb.mono hB.out.size))
  clear hb G3
  go_wp2_with fail
  refine (G4 _ HT.out).out.mono ?_
  rintro e w4 ⟨rfl, hb⟩
  replace HT := Lib.hid (HT.out.later hb)
  replace hB := Lib.hid (hB.out.trans (hb.mono hB.out.size))
  clear hb G4
  go_wp2_with fail
  refine (G5 _ HT.out).out.mono ?_
  rintro e w5 ⟨rfl, hb⟩
  replace HT := Lib.hid (HT.out.later hb)
  replace hB := Lib.hid (hB.out.trans (hb.mono hB.out.size))
  clear hb G5
  go_wp2_with fail
  refine (G6 _ HT.out).out.mono ?_
  rintro e w6 ⟨rfl, hb⟩
  replace HT := Lib.hid (HT.out.later hb)
  replace hB := Lib.hid (hB.out.trans (hb.mono hB.out.size))
  clear hb G6
  go_wp2_with fail
  refine (G7 _ HT.out).out.mono ?_
  rintro e w7 ⟨rfl, hb⟩
  replace HT := Lib.hid (HT.out.later hb)
  replace hB := Lib.hid (hB.out.trans (hb.mono hB.out.size))
  clear hb G7
  go_wp2_with fail
  refine (G8 _ HT.out).out.mono ?_
  rintro e w8 ⟨rfl, hb⟩
  replace HT := Lib.hid (HT.out.later hb)
  replace hB := Lib.hid (hB.out.trans (hb.mono hB.out.size))
  clear hb G8
  go_wp2_with fail
  refine (G9 _ HT.out).out.mono ?_
  rintro e w9 ⟨rfl, hb⟩
  replace HT := Lib.hid (HT.out.later hb)
  replace hB := Lib.hid (hB.out.trans (hb.mono hB.out.size))
  clear hb G9
  go_wp2_with fail
  refine (G10 _ HT.out).out.mono ?_
  rintro e w10 ⟨rfl, hb⟩
  replace HT := Lib.hid (HT.out.later hb)
  replace hB := Lib.hid (hB.out.trans (hb.mono hB.out.size))
  clear hb G10
  go_wp2_with fail
  refine (G11 _ HT.out).out.mono ?_
  rintro e w11 ⟨rfl, hb⟩
  replace HT := Lib.hid (HT.out.later hb)
  replace hB := Lib.hid (hB.out.trans (hb.mono hB.out.size))
  clear hb G11
  go_wp2_with fail
  refine (G12 _ HT.out).out.mono ?_
  rintro e w12 ⟨rfl, hb⟩
  replace HT := Lib.hid (HT.out.later hb)
  replace hB := Lib.hid (hB.out.trans (hb.mono hB.out.size))
  clear hb G12
  go_wp2_with fail
  refine (G13 _ HT.out).out.mono ?_
  rintro e w13 ⟨rfl, hb⟩
  replace HT := Lib.hid (HT.out.later hb)
  replace hB := Lib.hid (hB.out.trans (hb.mono hB.out.size))
  clear hb G13
  go_wp2_with fail
  refine (G14 _ HT.out).out.mono ?_
  rintro e w14 ⟨rfl, hb⟩
  replace HT := Lib.hid (HT.out.later hb)
  replace hB := Lib.hid (hB.out.trans (hb.mono hB.out.size))
  clear hb G14
  go_wp2
  go_ret
  exact ⟨rfl, hB.out⟩

set_option maxRecDepth 100000 in
set_option maxHeartbeats 8000000 in
theorem limits_lpb (a : ByteArray) (m0 n0 : Int) (n : Nat) (x mo nn : List UInt8) (hmo : mo.length ≤ 1000) (hnn : nn.length ≤ 1000) (hn : n < 200) (m : Nat) (nm on : List UInt8) (hm : m < 200) (hm0 : 0 < m) (sm df : List UInt8) (c : Int) (hc : c ≤ 0) (hs : 200 ≤ (m : Int) + n) (w : World) (ht : Tab w)
    (H1 : ∀ W, Tab W → Calls Tryz.prog 13 #[] W fun e w' => e = .returned (.bool true) ∧ Below W.heap.size W w')
    (H2 : ∀ W, Tab W → Calls Tryz.prog 14 #[.string a, .int .i64 5] W fun e w' => e = .returned (txt x) ∧ Below W.heap.size W w')
    (H3 : ∀ W, Tab W → Calls Tryz.prog 15 #[.int .i64 200] W fun e w' => e = .returned (txt mo) ∧ Below W.heap.size W w')
    (H4 : ∀ W, Tab W → Calls Tryz.prog 16 #[txt mo, txt x] W fun e w' => e = .returned (.tuple #[txt sm, .int .i64 0]) ∧ Below W.heap.size W w')
    (H5 : ∀ W, Tab W → Calls Tryz.prog 17 #[.string (⟨#[45]⟩ ++ ⟨mo.toArray⟩), txt x] W fun e w' => e = .returned (.tuple #[txt df, .int .i64 0]) ∧ Below W.heap.size W w')
    (H6 : ∀ W, Tab W → Calls Tryz.prog 18 #[.int .i64 m0, .int .i64 200] W fun e w' => e = .returned (.int .i64 (m : Int)) ∧ Below W.heap.size W w')
    (H7 : ∀ W, Tab W → Calls Tryz.prog 18 #[.int .i64 n0, .int .i64 200] W fun e w' => e = .returned (.int .i64 (n : Int)) ∧ Below W.heap.size W w')
    (H8 : ∀ W, Tab W → Calls Tryz.prog 15 #[.int .i64 (m : Int)] W fun e w' => e = .returned (txt nm) ∧ Below W.heap.size W w')
    (H9 : ∀ W, Tab W → Calls Tryz.prog 16 #[txt nm, .string { data := #[49] }] W fun e w' => e = .returned (.tuple #[txt on, .int .i64 0]) ∧ Below W.heap.size W w')
    (H10 : ∀ W, Tab W → Calls Tryz.prog 15 #[.int .i64 (n : Int)] W fun e w' => e = .returned (txt nn) ∧ Below W.heap.size W w')
    (H11 : ∀ W, Tab W → Calls Tryz.prog 19 #[txt on, .string (⟨#[49]⟩ ++ ⟨nn.toArray⟩)] W fun e w' => e = .returned (.tuple #[.string { data := #[] }, .int .i64 30]) ∧ Below W.heap.size W w')
    (H12 : ∀ W, Tab W → Calls Tryz.prog 20 #[txt x, .string { data := #[48] }] W fun e w' => e = .returned (.int .i64 c) ∧ Below W.heap.size W w')
    (H13 : ∀ W, Tab W → Calls Tryz.prog 21 #[.string (⟨mo.toArray⟩ ++ ⟨#[57]⟩)] W fun e w' => e = .returned (.bool false) ∧ Below W.heap.size W w')
    (H14 : ∀ W, Tab W → Calls Tryz.prog 21 #[.string (⟨#[45]⟩ ++ ⟨mo.toArray⟩)] W fun e w' => e = .returned (.bool true) ∧ Below W.heap.size W w') :
    Calls Tryz.prog 3 #[.string a, .int .i64 m0, .int .i64 n0] w fun e w' => e = .returned (.bool true) ∧ Below w.heap.size w w' := by
  have HT := Lib.hid ht
  have hB := Lib.hid (Below.refl w.heap.size w)
  clear ht
  have G1 := fun W (hW : Tab W) => Lib.hid (H1 W hW)
  have G2 := fun W (hW : Tab W) => Lib.hid (H2 W hW)
  have G3 := fun W (hW : Tab W) => Lib.hid (H3 W hW)
  have G4 := fun W (hW : Tab W) => Lib.hid (H4 W hW)
  have G5 := fun W (hW : Tab W) => Lib.hid (H5 W hW)
  have G6 := fun W (hW : Tab W) => Lib.hid (H6 W hW)
  have G7 := fun W (hW : Tab W) => Lib.hid (H7 W hW)
  have G8 := fun W (hW : Tab W) => Lib.hid (H8 W hW)
  have G9 := fun W (hW : Tab W) => Lib.hid (H9 W hW)
  have G10 := fun W (hW : Tab W) => Lib.hid (H10 W hW)
  have G11 := fun W (hW : Tab W) => Lib.hid (H11 W hW)
  have G12 := fun W (hW : Tab W) => Lib.hid (H12 W hW)
  have G13 := fun W (hW : Tab W) => Lib.hid (H13 W hW)
  have G14 := fun W (hW : Tab W) => Lib.hid (H14 W hW)
  clear H1 H2 H3 H4 H5 H6 H7 H8 H9 H10 H11 H12 H13 H14
  go_enter Tryz.func3, Tryz.ntmps3
  go_wp2_with fail
  refine (G1 _ HT.out).out.mono ?_
  rintro e w1 ⟨rfl, hb⟩
  replace HT := Lib.hid (HT.out.later hb)
  replace hB := Lib.hid (hB.out.trans (hb.mono hB.out.size))
  clear hb G1
  go_wp2_with fail
  refine (G2 _ HT.out).out.mono ?_
  rintro e w2 ⟨rfl, hb⟩
  replace HT := Lib.hid (HT.out.later hb)
  replace hB := Lib.hid (hB.out.trans (hb.mono hB.out.size))
  clear hb G2
  go_wp2_with fail
  refine (G3 _ HT.out).out.mono ?_
  rintro e w3 ⟨rfl, hb⟩
  replace HT := Lib.hid (HT.out.later hb)
  replace hB := Lib.hid (hB.out.trans (hb.mono hB.out.size))
  clear hb G3
  go_wp2_with fail
  refine (G4 _ HT.out).out.mono ?_
  rintro e w4 ⟨rfl, hb⟩
  replace HT := Lib.hid (HT.out.later hb)
  replace hB := Lib.hid (hB.out.trans (hb.mono hB.out.size))
  clear hb G4
  go_wp2_with fail
  refine (G5 _ HT.out).out.mono ?_
  rintro e w5 ⟨rfl, hb⟩
  replace HT := Lib.hid (HT.out.later hb)
  replace hB := Lib.hid (hB.out.trans (hb.mono hB.out.size))
  clear hb G5
  go_wp2_with fail
  refine (G6 _ HT.out).out.mono ?_
  rintro e w6 ⟨rfl, hb⟩
  replace HT := Lib.hid (HT.out.later hb)
  replace hB := Lib.hid (hB.out.trans (hb.mono hB.out.size))
  clear hb G6
  go_wp2_with fail
  refine (G7 _ HT.out).out.mono ?_
  rintro e w7 ⟨rfl, hb⟩
  replace HT := Lib.hid (HT.out.later hb)
  replace hB := Lib.hid (hB.out.trans (hb.mono hB.out.size))
  clear hb G7
  go_wp2_with fail
  refine (G8 _ HT.out).out.mono ?_
  rintro e w8 ⟨rfl, hb⟩
  replace HT := Lib.hid (HT.out.later hb)
  replace hB := Lib.hid (hB.out.trans (hb.mono hB.out.size))
  clear hb G8
  go_wp2_with fail
  refine (G9 _ HT.out).out.mono ?_
  rintro e w9 ⟨rfl, hb⟩
  replace HT := Lib.hid (HT.out.later hb)
  replace hB := Lib.hid (hB.out.trans (hb.mono hB.out.size))
  clear hb G9
  go_wp2_with fail
  refine (G10 _ HT.out).out.mono ?_
  rintro e w10 ⟨rfl, hb⟩
  replace HT := Lib.hid (HT.out.later hb)
  replace hB := Lib.hid (hB.out.trans (hb.mono hB.out.size))
  clear hb G10
  go_wp2_with fail
  refine (G11 _ HT.out).out.mono ?_
  rintro e w11 ⟨rfl, hb⟩
  replace HT := Lib.hid (HT.out.later hb)
  replace hB := Lib.hid (hB.out.trans (hb.mono hB.out.size))
  clear hb G11
  go_wp2_with fail
  refine (G12 _ HT.out).out.mono ?_
  rintro e w12 ⟨rfl, hb⟩
  replace HT := Lib.hid (HT.out.later hb)
  replace hB := Lib.hid (hB.out.trans (hb.mono hB.out.size))
  clear hb G12
  go_wp2_with fail
  refine (G13 _ HT.out).out.mono ?_
  rintro e w13 ⟨rfl, hb⟩
  replace HT := Lib.hid (HT.out.later hb)
  replace hB := Lib.hid (hB.out.trans (hb.mono hB.out.size))
  clear hb G13
  go_wp2_with fail
  refine (G14 _ HT.out).out.mono ?_
  rintro e w14 ⟨rfl, hb⟩
  replace HT := Lib.hid (HT.out.later hb)
  replace hB := Lib.hid (hB.out.trans (hb.mono hB.out.size))
  clear hb G14
  go_wp2
  go_ret
  exact ⟨rfl, hB.out⟩
end Go.Proofs.YtkihodadopcioaaGreatDoor
namespace Go.Proofs.YtkihodadopcioaaGreatDoor
open Go.RowKit Go.Shelf

theorem ba_cons (b : UInt8) (l : List UInt8) : (⟨#[b]⟩ ++ ⟨l.toArray⟩ : ByteArray) = ⟨(b :: l).toArray⟩ := by
  apply ByteArray.ext
  apply Array.toList_inj.1
  simp
theorem ba_snoc (b : UInt8) (l : List UInt8) : (⟨l.toArray⟩ ++ ⟨#[b]⟩ : ByteArray) = ⟨(l ++ [b]).toArray⟩ := by
  apply ByteArray.ext
  apply Array.toList_inj.1
  simp

theorem add_big (x y : Int) (l m : List UInt8) (hx : x.natAbs < 10 ^ 200) (hy : y.natAbs < 10 ^ 200) (hz : ¬ (x + y).natAbs < 10 ^ 200) (e1 : Lib.itoa x = l) (e2 : Lib.itoa y = m) (W : World) (hW : Tab W) :
    Calls Tryz.prog 16 #[txt l, txt m] W fun e w' => e = .returned (.tuple #[.string { data := #[] }, .int .i64 30]) ∧ Below W.heap.size W w' := by
  subst e1 e2
  have h := add_any x y W hx hy hW
  rw [ires_no hz] at h
  exact h
theorem sub_big (x y : Int) (l m : List UInt8) (hx : x.natAbs < 10 ^ 200) (hy : y.natAbs < 10 ^ 200) (hz : ¬ (x - y).natAbs < 10 ^ 200) (e1 : Lib.itoa x = l) (e2 : Lib.itoa y = m) (W : World) (hW : Tab W) :
    Calls Tryz.prog 17 #[txt l, txt m] W fun e w' => e = .returned (.tuple #[.string { data := #[] }, .int .i64 30]) ∧ Below W.heap.size W w' := by
  subst e1 e2
  have h := sub_any x y W hx hy hW
  rw [ires_no hz] at h
  exact h
theorem mul_big (x y : Int) (l m : List UInt8) (hx : x.natAbs < 10 ^ 200) (hy : y.natAbs < 10 ^ 200) (hz : ¬ (x * y).natAbs < 10 ^ 200) (e1 : Lib.itoa x = l) (e2 : Lib.itoa y = m) (W : World) (hW : Tab W) :
    Calls Tryz.prog 19 #[txt l, txt m] W fun e w' => e = .returned (.tuple #[.string { data := #[] }, .int .i64 30]) ∧ Below W.heap.size W w' := by
  subst e1 e2
  have h := mul_any x y W hx hy hW
  rw [ires_no hz] at h
  exact h

/-- How many digits the product of powers has. -/
theorem prod_lt (m n : Nat) : 10 ^ m * (2 * 10 ^ n - 1) < 10 ^ 200 ↔ m + n < 200 := by
  have hp : 0 < 10 ^ n := Nat.pow_pos (by omega)
  have hq : 0 < 10 ^ m := Nat.pow_pos (by omega)
  have lo : 10 ^ (m + n) ≤ 10 ^ m * (2 * 10 ^ n - 1) := by
    rw [Nat.pow_add]
    exact Nat.mul_le_mul_left _ (by omega)
  have hi : 10 ^ m * (2 * 10 ^ n - 1) < 10 ^ (m + n + 1) := by
    rw [Nat.pow_succ, Nat.pow_add, Nat.mul_assoc]
    exact Nat.mul_lt_mul_of_pos_left (by omega) hq
  constructor
  · intro h
    exact (Nat.pow_lt_pow_iff_right (a := 10) (by omega)).1 (Nat.lt_of_le_of_lt lo h)
  · intro h
    exact Nat.lt_of_lt_of_le hi (Nat.pow_le_pow_right (by omega) (by omega))

theorem limits_any (a : ByteArray) (m0 : Int) (hm0 : -9223372036854775808 ≤ m0) (hm1 : m0 ≤ 9223372036854775807) (n0 : Int) (hn0 : -9223372036854775808 ≤ n0) (hn1 : n0 ≤ 9223372036854775807) (w : World) (ht : Tab w) :
    Calls Tryz.prog 3 #[.string a, .int .i64 m0, .int .i64 n0] w fun e w' => e = .returned (.bool true) ∧ Below w.heap.size w w' := by
  have hs := fun W hW => sane_any W hW
  obtain ⟨x, ex⟩ : ∃ x, madeZ a.data.toList 5 = x := ⟨_, rfl⟩
  have hx5 : x.natAbs < 10 ^ 5 := by rw [← ex]; exact madeZ_lt _ 5
  have hM := made_is a 5 (by omega) (Lib.itoa x) (by rw [ex])
  clear ex
  obtain ⟨P, eP⟩ : ∃ P : Nat, P = 10 ^ 200 := ⟨_, rfl⟩
  have hP : 1000000 ≤ P := by rw [eP]; decide +kernel
  obtain ⟨mo, emo⟩ : ∃ mo : List UInt8, mo = List.replicate 200 57 := ⟨_, rfl⟩
  have hmol : mo.length ≤ 1000 := by rw [emo, List.length_replicate]; omega
  have hmo : Lib.itoa ((P - 1 : Nat) : Int) = mo := by rw [emo, eP]; exact nines_itoa 200 (by omega)
  have hmm : Lib.itoa (-((P - 1 : Nat) : Int)) = 45 :: mo := by rw [emo, eP]; exact nines_minus 200 (by omega)
  have n200 : ∀ W, Tab W → Calls Tryz.prog 15 #[.int .i64 200] W fun e w' => e = .returned (txt mo) ∧ Below W.heap.size W w' := by
    intro W _
    rw [emo]
    exact nines_any 200 W (by omega)
  have bmo : ((P - 1 : Nat) : Int).natAbs < 10 ^ 200 := by rw [← eP]; omega
  have bmm : (-((P - 1 : Nat) : Int)).natAbs < 10 ^ 200 := by rw [← eP]; omega
  have bx : x.natAbs < 10 ^ 200 := by rw [← eP]; omega
  have v1 : ∀ W, Tab W → Calls Tryz.prog 21 #[.string (⟨mo.toArray⟩ ++ ⟨#[57]⟩)] W fun e w' => e = .returned (.bool false) ∧ Below W.heap.size W w' := by
    intro W hW
    rw [ba_snoc]
    exact valid_is _ false (by simp; omega) (by rw [emo]; decide +kernel) W hW
  have v2 : ∀ W, Tab W → Calls Tryz.prog 21 #[.string (⟨#[45]⟩ ++ ⟨mo.toArray⟩)] W fun e w' => e = .returned (.bool true) ∧ Below W.heap.size W w' := by
    intro W hW
    rw [ba_cons]
    exact valid_is _ true (by simp; omega) (by rw [emo]; decide +kernel) W hW
  clear emo
  have pm := fun W (_ : Tab W) => pick_any m0 W hm0 hm1
  have pn := fun W (_ : Tab W) => pick_any n0 W hn0 hn1
  have lm := pk_lt m0
  have ln := pk_lt n0
  generalize pk m0 = m at pm lm
  generalize pk n0 = n at pn ln
  have nn := fun W (_ : Tab W) => nines_any n W (by omega)
  have np : (10 : Nat) ^ n ≤ P := by rw [eP]; exact Nat.pow_le_pow_right (by omega) (by omega)
  have mp : (10 : Nat) ^ m ≤ P := by rw [eP]; exact Nat.pow_le_pow_right (by omega) (by omega)
  have np1 : (10 : Nat) ^ (n + 1) ≤ P := by rw [eP]; exact Nat.pow_le_pow_right (by omega) (by omega)
  have mp1 : (10 : Nat) ^ (m + 1) ≤ P := by rw [eP]; exact Nat.pow_le_pow_right (by omega) (by omega)
  rw [Nat.pow_succ] at np1 mp1
  have n1 : 0 < (10 : Nat) ^ n := Nat.pow_pos (by omega)
  have m1 : 0 < (10 : Nat) ^ m := Nat.pow_pos (by omega)
  have btwo : ((2 * 10 ^ n - 1 : Nat) : Int).natAbs < 10 ^ 200 := by rw [← eP]; omega
  have bone : ((10 ^ m : Nat) : Int).natAbs < 10 ^ 200 := by rw [← eP]; omega
  have etwo := pow_itoa n
  have hlen := prod_length m n
  have hlt := prod_lt m n
  have eprod : ((10 ^ m : Nat) : Int) * ((2 * 10 ^ n - 1 : Nat) : Int) = ((10 ^ m * (2 * 10 ^ n - 1) : Nat) : Int) := by rw [Int.natCast_mul]
  have hnl : (List.replicate n (57 : UInt8)).length ≤ 1000 := by rw [List.length_replicate]; omega
  -- the product
  have hprod : (10 ^ m * (2 * 10 ^ n - 1) < 10 ^ 200) → ∀ W, Tab W → Calls Tryz.prog 19 #[txt (Lib.itoa ((10 ^ m : Nat) : Int)), .string (⟨#[49]⟩ ++ ⟨(List.replicate n 57).toArray⟩)] W fun e w' => e = .returned (.tuple #[txt (Lib.itoa ((10 ^ m * (2 * 10 ^ n - 1) : Nat) : Int)), .int .i64 0]) ∧ Below W.heap.size W w' := by
    intro h W hW
    rw [ba_cons]
    exact mul_is _ _ _ _ _ _ bone btwo (by rw [Int.natAbs_natCast]; exact h) eprod rfl etwo rfl W hW
  have hprodn : ¬ (10 ^ m * (2 * 10 ^ n - 1) < 10 ^ 200) → ∀ W, Tab W → Calls Tryz.prog 19 #[txt (Lib.itoa ((10 ^ m : Nat) : Int)), .string (⟨#[49]⟩ ++ ⟨(List.replicate n 57).toArray⟩)] W fun e w' => e = .returned (.tuple #[.string { data := #[] }, .int .i64 30]) ∧ Below W.heap.size W w' := by
    intro h W hW
    rw [ba_cons]
    exact mul_big _ _ _ _ bone btwo (by rw [eprod, Int.natAbs_natCast]; exact h) rfl etwo W hW
  -- the sums
  have hsub : ∀ v, (∀ W, Tab W → Calls Tryz.prog 17 #[txt (45 :: mo), txt (Lib.itoa x)] W fun e w' => e = .returned v ∧ Below W.heap.size W w') →
      ∀ W, Tab W → Calls Tryz.prog 17 #[.string (⟨#[45]⟩ ++ ⟨mo.toArray⟩), txt (Lib.itoa x)] W fun e w' => e = .returned v ∧ Below W.heap.size W w' := by
    intro v h W hW
    rw [ba_cons]
    exact h W hW
  rcases Nat.eq_zero_or_pos m with hz | hpos
  · subst hz
    have e1 : Lib.itoa ((10 ^ 0 : Nat) : Int) = [49] := by decide +kernel
    have hp := hprod (hlt.2 (by omega))
    rw [e1] at hp
    have z0 : ∀ W, Tab W → Calls Tryz.prog 15 #[.int .i64 0] W fun e w' => e = .returned (.string { data := #[] }) ∧ Below W.heap.size W w' := fun W _ => nines_any 0 W (by omega)
    have a0 : ∀ W, Tab W → Calls Tryz.prog 16 #[.string { data := #[] }, .string { data := #[49] }] W fun e w' => e = .returned (.tuple #[.string { data := #[] }, .int .i64 30]) ∧ Below W.heap.size W w' := fun W _ => add_no [] [49] W (by decide) (by decide) (by decide +kernel)
    have a1 := add_is 0 1 1 [48] [49] [49] abs0 abs1 abs1 (by omega) zero_txt one_txt one_txt
    have hl : (((Lib.itoa ((10 ^ 0 * (2 * 10 ^ n - 1) : Nat) : Int)).length : Int) == (n : Int) + 1) = true := by rw [hlen, beq_iff_eq]; omega
    by_cases hg : 0 < x
    · exact limits_gzs a m0 n0 n _ mo _ hmol hnl ln _ (by omega) hl w ht hs hM n200 (add_big _ x _ _ bmo bx (by rw [← eP]; omega) hmo rfl) (hsub _ (sub_big _ x _ _ bmm bx (by rw [← eP]; omega) hmm rfl)) pm pn z0 a0 a1 nn hp (cmp_is x 0 1 _ [48] bx abs0 (sgn_of_gt hg) rfl zero_txt) v1 v2
    · exact limits_lzs a m0 n0 n _ mo _ hmol hnl ln _ _ _ (sgn_le (x := x) (y := 0) (by omega)) _ (by omega) hl w ht hs hM n200 (add_is _ x _ _ _ _ bmo bx (by rw [← eP]; omega) rfl hmo rfl rfl) (hsub _ (sub_is _ x _ _ _ _ bmm bx (by rw [← eP]; omega) rfl hmm rfl rfl)) pm pn z0 a0 a1 nn hp (cmp_is x 0 _ _ [48] bx abs0 rfl rfl zero_txt) v1 v2
  · have nm := fun W (_ : Tab W) => nines_any m W (by omega)
    have on := add_is ((10 ^ m - 1 : Nat) : Int) 1 ((10 ^ m : Nat) : Int) _ [49] _ (by rw [← eP]; omega) abs1 bone (by omega) (nines_itoa m hpos) one_txt rfl
    by_cases hsm : m + n < 200
    · have hp := hprod (hlt.2 hsm)
      have hl : (((Lib.itoa ((10 ^ m * (2 * 10 ^ n - 1) : Nat) : Int)).length : Int) == (m : Int) + n + 1) = true := by rw [hlen, beq_iff_eq]; omega
      by_cases hg : 0 < x
      · exact limits_gps a m0 n0 n _ mo _ hmol hnl ln m _ _ lm hpos _ (by omega) hl w ht hs hM n200 (add_big _ x _ _ bmo bx (by rw [← eP]; omega) hmo rfl) (hsub _ (sub_big _ x _ _ bmm bx (by rw [← eP]; omega) hmm rfl)) pm pn nm on nn hp (cmp_is x 0 1 _ [48] bx abs0 (sgn_of_gt hg) rfl zero_txt) v1 v2
      · exact limits_lps a m0 n0 n _ mo _ hmol hnl ln m _ _ lm hpos _ _ _ (sgn_le (x := x) (y := 0) (by omega)) _ (by omega) hl w ht hs hM n200 (add_is _ x _ _ _ _ bmo bx (by rw [← eP]; omega) rfl hmo rfl rfl) (hsub _ (sub_is _ x _ _ _ _ bmm bx (by rw [← eP]; omega) rfl hmm rfl rfl)) pm pn nm on nn hp (cmp_is x 0 _ _ [48] bx abs0 rfl rfl zero_txt) v1 v2
    · have hp := hprodn (fun h => hsm (hlt.1 h))
      by_cases hg : 0 < x
      · exact limits_gpb a m0 n0 n _ mo _ hmol hnl ln m _ _ lm hpos (by omega) w ht hs hM n200 (add_big _ x _ _ bmo bx (by rw [← eP]; omega) hmo rfl) (hsub _ (sub_big _ x _ _ bmm bx (by rw [← eP]; omega) hmm rfl)) pm pn nm on nn hp (cmp_is x 0 1 _ [48] bx abs0 (sgn_of_gt hg) rfl zero_txt) v1 v2
      · exact limits_lpb a m0 n0 n _ mo _ hmol hnl ln m _ _ lm hpos _ _ _ (sgn_le (x := x) (y := 0) (by omega)) (by omega) w ht hs hM n200 (add_is _ x _ _ _ _ bmo bx (by rw [← eP]; omega) rfl hmo rfl rfl) (hsub _ (sub_is _ x _ _ _ _ bmm bx (by rw [← eP]; omega) rfl hmm rfl rfl)) pm pn nm on nn hp (cmp_is x 0 _ _ [48] bx abs0 rfl rfl zero_txt) v1 v2
end Go.Proofs.YtkihodadopcioaaGreatDoor
