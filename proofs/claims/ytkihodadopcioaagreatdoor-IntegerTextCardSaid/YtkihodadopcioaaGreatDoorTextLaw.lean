/- IntegerText: ToInt at every text, the walks, and that it answers true. -/
import Derived.Test.YtkihodadopcioaaGreatDoorSane
import Derived.Test.YtkihodadopcioaaGreatDoorShelfAtoi
import Derived.Stop.LaidErr
namespace Go.Proofs.YtkihodadopcioaaGreatDoor
open Go.RowKit Go.Shelf

theorem from_any (z : Int) (w : World) (h0 : -9223372036854775808 ≤ z) (h1 : z ≤ 9223372036854775807) (ht : Tab w) :
    Calls Tryz.prog 36 #[.int .i64 z] w fun e w' => e = .returned (txt (Lib.itoa z)) ∧ Below w.heap.size w w' := by
  go_enter Tryz.func36, Tryz.ntmps36
  go_wp2_with (go_at_call 88; refine (itoa_any z w h0 h1 ht).mono ?_; rintro e w1 ⟨rfl, hb⟩)
  go_ret
  exact ⟨rfl, hb⟩
theorem from_is (z : Int) (l : List UInt8) (e : Lib.itoa z = l) (h0 : -9223372036854775808 ≤ z) (h1 : z ≤ 9223372036854775807) (W : World) (hW : Tab W) :
    Calls Tryz.prog 36 #[.int .i64 z] W fun e w' => e = .returned (txt l) ∧ Below W.heap.size W w' := by
  subst e
  exact from_any z W h0 h1 hW

theorem atoi_itoa (z : Int) : Lib.atoi (Lib.itoa z) = some z := by
  have hd := Dec.decDigits_digits z.natAbs
  have hne := Dec.decDigits_ne z.natAbs
  rcases Int.lt_or_le z 0 with h | h
  · rw [Dec.itoa_neg h]
    show (Lib.decNat (Lib.decDigits z.natAbs)).map (fun (m : Nat) => -(m : Int)) = some z
    unfold Lib.decNat
    rw [if_neg (by simpa using hne), Dec.decFrom_digits _ _ hd, Dec.dval_decDigits]
    simp
    omega
  · rw [Dec.itoa_nonneg h, Dec.atoi_digits hd hne, Dec.dval_decDigits]
    congr 1
    omega

set_option maxRecDepth 100000 in
set_option maxHeartbeats 1000000 in
/-- ToInt of a text that is the numeral of a machine integer, given what Atoi answers. -/
theorem toint_ok (l : List UInt8) (z : Int) (w : World) (hl : l.length ≤ 1000000) (hv : Dec.vld l = true)
    (HA : Calls Tryz.prog 87 #[txt l] w fun e w' => e = .returned (.tuple #[.int .i64 z, .nilIface]) ∧ Below w.heap.size w w') :
    Calls Tryz.prog 32 #[txt l] w fun e w' => e = .returned (.tuple #[.int .i64 z, .int .i64 0]) ∧ Below w.heap.size w w' := by
  have HV := fun W => valid_any ⟨l.toArray⟩ W (by rw [Lib.size_eq]; simp; omega)
  simp only [hv] at HV
  go_enter Tryz.func32, Tryz.ntmps32
  go_wp2_with fail
  refine HA.mono ?_
  rintro e w1 ⟨rfl, hb1⟩
  go_wp2_with fail
  refine (HV _).mono ?_
  rintro e w2 ⟨rfl, hb2⟩
  go_wp2
  go_ret2
  exact ⟨rfl, hb1.trans (hb2.mono hb1.size)⟩

theorem toint_is (z : Int) (l : List UInt8) (e : Lib.itoa z = l) (hz : z.natAbs < 10 ^ 17) (W : World) (_ : Tab W) :
    Calls Tryz.prog 32 #[txt l] W fun e w' => e = .returned (.tuple #[.int .i64 z, .int .i64 0]) ∧ Below W.heap.size W w' := by
  subst e
  have hlen : (Lib.itoa z).length ≤ 18 := by
    have h2 := (Dec.decDigits_length z.natAbs 17 (by decide)).2 hz
    rcases Int.lt_or_le z 0 with h | h
    · rw [Dec.itoa_neg h, List.length_cons]; omega
    · rw [Dec.itoa_nonneg h]; omega
  refine toint_ok _ z W (by omega) (Dec.vld_itoa z (Nat.lt_of_lt_of_le hz (by decide +kernel))) ?_
  refine (Tryz.strconv_Atoi ⟨(Lib.itoa z).toArray⟩ z (by rw [Lib.size_eq]; exact hlen) (atoi_itoa z) W).mono ?_
  rintro e w' ⟨rfl, t, rfl⟩
  exact ⟨rfl, Lib.bytesWorld_below _ _ _⟩
end Go.Proofs.YtkihodadopcioaaGreatDoor
namespace Go.Proofs.YtkihodadopcioaaGreatDoor
open Go.RowKit Go.Shelf

/-! ### What Atoi's own word says of numerals -/
theorem parse10 (l : List UInt8) : ∀ acc, Dec.Digits l → acc < 18446744073709551616 →
    Lib.parseUint10 acc l = if acc * 10 ^ l.length + Dec.dval l < 18446744073709551616 then .ok (acc * 10 ^ l.length + Dec.dval l) else .range := by
  induction l with
  | nil =>
    intro acc _ ha
    rw [show acc * 10 ^ ([] : List UInt8).length + Dec.dval [] = acc by simp [Dec.dval_nil], if_pos ha]
    rfl
  | cons c r ih =>
    intro acc hd ha
    have hc : Dec.IsDigit c := hd c List.mem_cons_self
    have hr : Dec.Digits r := fun b hb => hd b (List.mem_cons_of_mem _ hb)
    have hc' := hc
    unfold Dec.IsDigit at hc'
    have e : acc * 10 ^ (c :: r).length + Dec.dval (c :: r) = (acc * 10 + (c.toNat - 48)) * 10 ^ r.length + Dec.dval r := by
      rw [Dec.dval_cons, List.length_cons, Nat.pow_succ, Nat.add_mul, Nat.mul_comm (10 ^ r.length) 10, ← Nat.mul_assoc]
      omega
    have hp : 0 < 10 ^ r.length := Nat.pow_pos (by omega)
    have hge : acc * 10 + (c.toNat - 48) ≤ (acc * 10 + (c.toNat - 48)) * 10 ^ r.length := Nat.le_mul_of_pos_right _ hp
    rw [e]
    simp only [Lib.parseUint10]
    rw [if_pos hc']
    by_cases h1 : 1844674407370955162 ≤ acc
    · rw [if_pos h1, if_neg (by omega)]
    · rw [if_neg h1]
      by_cases h2 : 18446744073709551616 ≤ acc * 10 + (c.toNat - 48)
      · rw [if_pos h2, if_neg (by omega)]
      · rw [if_neg h2, ih _ hr (by omega)]

theorem mag_dec (n : Nat) : Lib.parseMag (Lib.decDigits n) = if n < 18446744073709551616 then .ok n else .range := by
  unfold Lib.parseMag
  rw [if_neg (Dec.decDigits_ne n), parse10 _ 0 (Dec.decDigits_digits n) (by omega), Dec.dval_decDigits, Nat.zero_mul, Nat.zero_add]

/-- Atoi's word at a numeral. -/
theorem atoiAll_itoa (z : Int) : Lib.atoiAll (Lib.itoa z) = if -9223372036854775808 ≤ z ∧ z ≤ 9223372036854775807 then .ok z else .range := by
  have hm := mag_dec z.natAbs
  rcases Int.lt_or_le z 0 with h | h
  · rw [Dec.itoa_neg h]
    unfold Lib.atoiAll
    simp only []
    rw [if_pos (.inr (by decide)), hm]
    by_cases h1 : z.natAbs < 18446744073709551616
    · rw [if_pos h1]
      simp only []
      rw [if_neg (fun hh => hh.1 (by decide))]
      by_cases h2 : 9223372036854775808 < z.natAbs
      · rw [if_pos ⟨by decide, h2⟩, if_neg (by omega)]
      · rw [if_neg (fun hh => h2 hh.2), if_pos (show ((45 : UInt8).toNat = 45) by decide), if_pos (by omega)]
        congr 1
        omega
    · rw [if_neg h1, if_neg (by omega)]
  · rw [Dec.itoa_nonneg h]
    have hd := Dec.decDigits_digits z.natAbs
    obtain ⟨c, r, hl⟩ : ∃ c r, Lib.decDigits z.natAbs = c :: r := List.exists_cons_of_ne_nil (Dec.decDigits_ne _)
    have hc : Dec.IsDigit c := hd c (by rw [hl]; exact List.mem_cons_self)
    unfold Dec.IsDigit at hc
    rw [hl] at hm ⊢
    unfold Lib.atoiAll
    simp only []
    rw [if_neg (by omega), hm]
    by_cases h1 : z.natAbs < 18446744073709551616
    · rw [if_pos h1]
      simp only []
      by_cases h2 : 9223372036854775808 ≤ z.natAbs
      · rw [if_pos ⟨by omega, h2⟩, if_neg (by omega)]
      · rw [if_neg (fun hh => h2 hh.2), if_neg (by omega), if_neg (show ¬ (c.toNat = 45) by omega), if_pos (by omega)]
        congr 1
        omega
    · rw [if_neg h1, if_neg (by omega)]

/-- The number that a text is, for ToInt. -/
def tiv (l : List UInt8) : Option Int := match Lib.atoiAll l with
  | .ok v => if Dec.vld l then some v else none
  | _ => none
def tires : Option Int → Value
  | some v => .tuple #[.int .i64 v, .int .i64 0]
  | none => .tuple #[.int .i64 0, .int .i64 30]
theorem tiv_itoa (z : Int) (hz : z.natAbs < 10 ^ 200) : tiv (Lib.itoa z) = if -9223372036854775808 ≤ z ∧ z ≤ 9223372036854775807 then some z else none := by
  unfold tiv
  rw [atoiAll_itoa, Dec.vld_itoa z hz]
  by_cases h : -9223372036854775808 ≤ z ∧ z ≤ 9223372036854775807
  · rw [if_pos h, if_pos h]; rfl
  · rw [if_neg h, if_neg h]
theorem tiv_no {l : List UInt8} (h : Dec.vld l = false) : tiv l = none := by
  unfold tiv
  rw [h]
  cases Lib.atoiAll l <;> rfl
/-- Where it is a number, the text is its numeral. -/
theorem tiv_some {l : List UInt8} {v : Int} (h : tiv l = some v) : Dec.vld l = true ∧ l = Lib.itoa v ∧ -9223372036854775808 ≤ v ∧ v ≤ 9223372036854775807 := by
  cases hv : Dec.vld l with
  | false => rw [tiv_no hv] at h; cases h
  | true =>
    obtain ⟨z, rfl, hz⟩ := Dec.itoa_of_vld hv
    rw [tiv_itoa z hz] at h
    by_cases hb : -9223372036854775808 ≤ z ∧ z ≤ 9223372036854775807
    · rw [if_pos hb] at h
      obtain rfl := Option.some.inj h
      exact ⟨rfl, rfl, hb.1, hb.2⟩
    · rw [if_neg hb] at h; cases h

/-! ### The walk -/
/-- What the two error variables of strconv hold: something. -/
def Errs (w : World) : Prop := (∃ tp p, w.var? Tryz.prog "strconv.ErrSyntax" = some #[.iface tp p]) ∧ (∃ tp p, w.var? Tryz.prog "strconv.ErrRange" = some #[.iface tp p])

set_option maxRecDepth 100000 in
set_option maxHeartbeats 1000000 in
theorem toint_err (l : List UInt8) (z : Int) (w : World) (hl : l.length ≤ 1000000)
    (HA : Calls Tryz.prog 87 #[txt l] w fun e w' => ∃ N, e = .returned (.tuple #[.int .i64 z, .iface 187 (.pointer (some ⟨N, 0, none⟩))]) ∧ Below w.heap.size w w') :
    Calls Tryz.prog 32 #[txt l] w fun e w' => e = .returned (.tuple #[.int .i64 0, .int .i64 30]) ∧ Below w.heap.size w w' := by
  have HV := fun W => valid_any ⟨l.toArray⟩ W (by rw [Lib.size_eq]; simp; omega)
  simp only [] at HV
  cases hv : Dec.vld l
  all_goals
    simp only [hv] at HV
    clear hv
    go_enter Tryz.func32, Tryz.ntmps32
    go_wp2_with fail
    refine HA.mono ?_
    rintro e w1 ⟨N, rfl, hb1⟩
    go_wp2_with fail
    refine (HV _).mono ?_
    rintro e w2 ⟨rfl, hb2⟩
    go_wp2
    go_ret2
    exact ⟨rfl, hb1.trans (hb2.mono hb1.size)⟩

set_option maxRecDepth 100000 in
set_option maxHeartbeats 1000000 in
theorem toint_invalid (l : List UInt8) (z : Int) (w : World) (hl : l.length ≤ 1000000) (hv : Dec.vld l = false)
    (HA : Calls Tryz.prog 87 #[txt l] w fun e w' => e = .returned (.tuple #[.int .i64 z, .nilIface]) ∧ Below w.heap.size w w') :
    Calls Tryz.prog 32 #[txt l] w fun e w' => e = .returned (.tuple #[.int .i64 0, .int .i64 30]) ∧ Below w.heap.size w w' := by
  have HV := fun W => valid_any ⟨l.toArray⟩ W (by rw [Lib.size_eq]; simp; omega)
  simp only [hv] at HV
  clear hv
  go_enter Tryz.func32, Tryz.ntmps32
  go_wp2_with fail
  refine HA.mono ?_
  rintro e w1 ⟨rfl, hb1⟩
  go_wp2_with fail
  refine (HV _).mono ?_
  rintro e w2 ⟨rfl, hb2⟩
  go_wp2
  go_ret2
  exact ⟨rfl, hb1.trans (hb2.mono hb1.size)⟩

/-- ToInt at every text. -/
theorem toint_any (l : List UInt8) (hl : l.length ≤ 1000000) (w : World) (he : Errs w) :
    Calls Tryz.prog 32 #[txt l] w fun e w' => e = .returned (tires (tiv l)) ∧ Below w.heap.size w w' := by
  obtain ⟨⟨t1, p1, h1⟩, ⟨t2, p2, h2⟩⟩ := he
  cases ha : Lib.atoiAll l with
  | ok v =>
    have HA : Calls Tryz.prog 87 #[txt l] w fun e w' => e = .returned (.tuple #[.int .i64 v, .nilIface]) ∧ Below w.heap.size w w' := by
      refine (Tryz.strconv_Atoi_ok ⟨l.toArray⟩ (by rw [Lib.size_eq]; show l.length ≤ _; omega) v ha w).mono ?_
      rintro e w' ⟨rfl, rfl | ⟨t, rfl⟩⟩
      · exact ⟨rfl, Below.refl _ _⟩
      · exact ⟨rfl, Lib.bytesWorld_below _ _ _⟩
    cases hv : Dec.vld l with
    | true =>
      have e : tiv l = some v := by unfold tiv; rw [ha]; simp [hv]
      rw [e]
      exact toint_ok l v w hl hv HA
    | false =>
      rw [tiv_no hv]
      exact toint_invalid l v w hl hv HA
  | «syntax» =>
    have e : tiv l = none := by unfold tiv; rw [ha]
    rw [e]
    refine toint_err l 0 w hl ((Tryz.strconv_Atoi_syntax_var ⟨l.toArray⟩ (by rw [Lib.size_eq]; show l.length ≤ _; omega) ha t1 p1 w h1).mono ?_)
    rintro e w' ⟨N, rfl, -, -, hb⟩
    exact ⟨N, rfl, hb⟩
  | range =>
    have e : tiv l = none := by unfold tiv; rw [ha]
    rw [e]
    refine toint_err l (Lib.atoiSat l) w hl ((Tryz.strconv_Atoi_range_var ⟨l.toArray⟩ (by rw [Lib.size_eq]; show l.length ≤ _; omega) ha t2 p2 w h2).mono ?_)
    rintro e w' ⟨N, rfl, -, -, hb⟩
    exact ⟨N, rfl, hb⟩

theorem Errs.later {w w' : World} (h : Errs w) (hb : Below w.heap.size w w') : Errs w' := by
  obtain ⟨⟨t1, p1, h1⟩, ⟨t2, p2, h2⟩⟩ := h
  exact ⟨⟨t1, p1, Joins.var_stays (g := 1) (by kernel_rfl) h1 hb (Nat.le_refl _)⟩, ⟨t2, p2, Joins.var_stays (g := 2) (by kernel_rfl) h2 hb (Nat.le_refl _)⟩⟩
end Go.Proofs.YtkihodadopcioaaGreatDoor
namespace Go.Proofs.YtkihodadopcioaaGreatDoor
open Go.RowKit Go.Shelf

/-- What the walks want of the variables. -/
def Tabe (w : World) : Prop := Tab w ∧ Errs w
theorem Tabe.later {w w' : World} (h : Tabe w) (hb : Below w.heap.size w w') : Tabe w' := ⟨h.1.later hb, h.2.later hb⟩

set_option maxRecDepth 100000 in
set_option maxHeartbeats 8000000 in
theorem text_ok (n : Int) (s : ByteArray) (t : List UInt8) (k : Int) (w : World) (ht : Tabe w)
    (H1 : ∀ W, Tabe W → Calls Tryz.prog 13 #[] W fun e w' => e = .returned (.bool true) ∧ Below W.heap.size W w')
    (H2 : ∀ W, Tabe W → Calls Tryz.prog 36 #[.int .i64 n] W fun e w' => e = .returned (txt t) ∧ Below W.heap.size W w')
    (H3 : ∀ W, Tabe W → Calls Tryz.prog 32 #[txt t] W fun e w' => e = .returned (.tuple #[.int .i64 n, .int .i64 0]) ∧ Below W.heap.size W w')
    (H4 : ∀ W, Tabe W → Calls Tryz.prog 32 #[.string (s.extract 0 (min (s.size : Int) 30).toNat)] W fun e w' => e = .returned (.tuple #[.int .i64 k, .int .i64 0]) ∧ Below W.heap.size W w')
    (H5 : ∀ W, Tabe W → Calls Tryz.prog 21 #[txt t] W fun e w' => e = .returned (.bool true) ∧ Below W.heap.size W w')
    (H6 : ∀ W, Tabe W → Calls Tryz.prog 21 #[.string (s.extract 0 (min (s.size : Int) 30).toNat)] W fun e w' => e = .returned (.bool true) ∧ Below W.heap.size W w')
    (H7 : ∀ W, Tabe W → Calls Tryz.prog 36 #[.int .i64 k] W fun e w' => e = .returned (.string (s.extract 0 (min (s.size : Int) 30).toNat)) ∧ Below W.heap.size W w') :
    Calls Tryz.prog 5 #[.int .i64 n, .string s] w fun e w' => e = .returned (.bool true) ∧ Below w.heap.size w w' := by
  have HT := Lib.hid ht
  have hB := Lib.hid (Below.refl w.heap.size w)
  clear ht
  have G1 := fun W (hW : Tabe W) => Lib.hid (H1 W hW)
  have G2 := fun W (hW : Tabe W) => Lib.hid (H2 W hW)
  have G3 := fun W (hW : Tabe W) => Lib.hid (H3 W hW)
  have G4 := fun W (hW : Tabe W) => Lib.hid (H4 W hW)
  have G5 := fun W (hW : Tabe W) => Lib.hid (H5 W hW)
  have G6 := fun W (hW : Tabe W) => Lib.hid (H6 W hW)
  have G7 := fun W (hW : Tabe W) => Lib.hid (H7 W hW)
  clear H1 H2 H3 H4 H5 H6 H7
  go_enter Tryz.func5, Tryz.ntmps5
  go_wp2_with fail
  refine (G1 _ HT.out).out.mono ?_
  rintro e w1 ⟨rfl, hb⟩
  replace HT := Lib.hid (HT.out.later hb)
  replace hB := Lib.hid (hB.out.trans (hb.mono hB.out.size))
  clear hb G1
  go_wp2_with fail
  refine (G2 _ HT.out).out.mono ?_
  rintro e w2 ⟨rfl, hb⟩
  replace HT := Lib.hid (HT.out.later hb)
  replace hB := Lib.hid (hB.out.trans (hb.mono hB.out.size))
  clear hb G2
  go_wp2_with fail
  refine (G3 _ HT.out).out.mono ?_
  rintro e w3 ⟨rfl, hb⟩
  replace HT := Lib.hid (HT.out.later hb)
  replace hB := Lib.hid (hB.out.trans (hb.mono hB.out.size))
  clear hb G3
  go_wp2_with fail
  refine (G4 _ HT.out).out.mono ?_
  rintro e w4 ⟨rfl, hb⟩
  replace HT := Lib.hid (HT.out.later hb)
  replace hB := Lib.hid (hB.out.trans (hb.mono hB.out.size))
  clear hb G4
  go_wp2_with fail
  refine (G5 _ HT.out).out.mono ?_
  rintro e w5 ⟨rfl, hb⟩
  replace HT := Lib.hid (HT.out.later hb)
  replace hB := Lib.hid (hB.out.trans (hb.mono hB.out.size))
  clear hb G5
  go_wp2_with fail
  refine (G6 _ HT.out).out.mono ?_
  rintro e w6 ⟨rfl, hb⟩
  replace HT := Lib.hid (HT.out.later hb)
  replace hB := Lib.hid (hB.out.trans (hb.mono hB.out.size))
  clear hb G6
  go_wp2_with fail
  refine (G7 _ HT.out).out.mono ?_
  rintro e w7 ⟨rfl, hb⟩
  replace HT := Lib.hid (HT.out.later hb)
  replace hB := Lib.hid (hB.out.trans (hb.mono hB.out.size))
  clear hb G7
  go_wp2
  go_ret
  exact ⟨rfl, hB.out⟩

set_option maxRecDepth 100000 in
set_option maxHeartbeats 8000000 in
theorem text_no (n : Int) (s : ByteArray) (t : List UInt8)  (w : World) (ht : Tabe w)
    (H1 : ∀ W, Tabe W → Calls Tryz.prog 13 #[] W fun e w' => e = .returned (.bool true) ∧ Below W.heap.size W w')
    (H2 : ∀ W, Tabe W → Calls Tryz.prog 36 #[.int .i64 n] W fun e w' => e = .returned (txt t) ∧ Below W.heap.size W w')
    (H3 : ∀ W, Tabe W → Calls Tryz.prog 32 #[txt t] W fun e w' => e = .returned (.tuple #[.int .i64 n, .int .i64 0]) ∧ Below W.heap.size W w')
    (H4 : ∀ W, Tabe W → Calls Tryz.prog 32 #[.string (s.extract 0 (min (s.size : Int) 30).toNat)] W fun e w' => e = .returned (.tuple #[.int .i64 0, .int .i64 30]) ∧ Below W.heap.size W w')
    (H5 : ∀ W, Tabe W → Calls Tryz.prog 21 #[txt t] W fun e w' => e = .returned (.bool true) ∧ Below W.heap.size W w') :
    Calls Tryz.prog 5 #[.int .i64 n, .string s] w fun e w' => e = .returned (.bool true) ∧ Below w.heap.size w w' := by
  have HT := Lib.hid ht
  have hB := Lib.hid (Below.refl w.heap.size w)
  clear ht
  have G1 := fun W (hW : Tabe W) => Lib.hid (H1 W hW)
  have G2 := fun W (hW : Tabe W) => Lib.hid (H2 W hW)
  have G3 := fun W (hW : Tabe W) => Lib.hid (H3 W hW)
  have G4 := fun W (hW : Tabe W) => Lib.hid (H4 W hW)
  have G5 := fun W (hW : Tabe W) => Lib.hid (H5 W hW)
  clear H1 H2 H3 H4 H5
  go_enter Tryz.func5, Tryz.ntmps5
  go_wp2_with fail
  refine (G1 _ HT.out).out.mono ?_
  rintro e w1 ⟨rfl, hb⟩
  replace HT := Lib.hid (HT.out.later hb)
  replace hB := Lib.hid (hB.out.trans (hb.mono hB.out.size))
  clear hb G1
  go_wp2_with fail
  refine (G2 _ HT.out).out.mono ?_
  rintro e w2 ⟨rfl, hb⟩
  replace HT := Lib.hid (HT.out.later hb)
  replace hB := Lib.hid (hB.out.trans (hb.mono hB.out.size))
  clear hb G2
  go_wp2_with fail
  refine (G3 _ HT.out).out.mono ?_
  rintro e w3 ⟨rfl, hb⟩
  replace HT := Lib.hid (HT.out.later hb)
  replace hB := Lib.hid (hB.out.trans (hb.mono hB.out.size))
  clear hb G3
  go_wp2_with fail
  refine (G4 _ HT.out).out.mono ?_
  rintro e w4 ⟨rfl, hb⟩
  replace HT := Lib.hid (HT.out.later hb)
  replace hB := Lib.hid (hB.out.trans (hb.mono hB.out.size))
  clear hb G4
  go_wp2_with fail
  refine (G5 _ HT.out).out.mono ?_
  rintro e w5 ⟨rfl, hb⟩
  replace HT := Lib.hid (HT.out.later hb)
  replace hB := Lib.hid (hB.out.trans (hb.mono hB.out.size))
  clear hb G5
  go_wp2
  go_ret
  exact ⟨rfl, hB.out⟩
end Go.Proofs.YtkihodadopcioaaGreatDoor
namespace Go.Proofs.YtkihodadopcioaaGreatDoor
open Go.RowKit Go.Shelf

theorem itext_any (n : Int) (hn0 : -9223372036854775808 ≤ n) (hn1 : n ≤ 9223372036854775807) (s : ByteArray) (w : World) (ht : Tabe w) :
    Calls Tryz.prog 5 #[.int .i64 n, .string s] w fun e w' => e = .returned (.bool true) ∧ Below w.heap.size w w' := by
  have hs : ∀ W, Tabe W → Calls Tryz.prog 13 #[] W fun e w' => e = .returned (.bool true) ∧ Below W.heap.size W w' := fun W hW => sane_any W hW.1
  have big : (9223372036854775809 : Nat) ≤ 10 ^ 200 := by decide +kernel
  have bn : n.natAbs < 10 ^ 200 := by omega
  have hlen : (Lib.itoa n).length ≤ 1000000 := Nat.le_trans (itoa_length n bn) (by omega)
  have f1 : ∀ W, Tabe W → _ := fun W hW => from_is n _ rfl hn0 hn1 W hW.1
  have t1 : ∀ W, Tabe W → Calls Tryz.prog 32 #[txt (Lib.itoa n)] W fun e w' => e = .returned (.tuple #[.int .i64 n, .int .i64 0]) ∧ Below W.heap.size W w' := by
    intro W hW
    have h := toint_any (Lib.itoa n) hlen W hW.2
    rw [tiv_itoa n bn, if_pos ⟨hn0, hn1⟩] at h
    exact h
  have v1 : ∀ W, Tabe W → _ := fun W hW => valid_is (Lib.itoa n) true hlen (Dec.vld_itoa n bn) W hW.1
  obtain ⟨l, hl⟩ : ∃ l : List UInt8, s.extract 0 (min (s.size : Int) 30).toNat = ⟨l.toArray⟩ := ⟨(s.extract 0 (min (s.size : Int) 30).toNat).data.toList, rfl⟩
  have hll : l.length ≤ 1000000 := by
    have h := congrArg ByteArray.size hl
    rw [ByteArray.size_extract, Lib.size_eq ⟨l.toArray⟩] at h
    simp only [] at h
    omega
  have t2 : ∀ W, Tabe W → _ := fun W hW => toint_any l hll W hW.2
  cases h : tiv l with
  | none =>
    rw [h] at t2
    exact text_no n s _ w ht hs f1 t1 (by rw [hl]; exact t2) v1
  | some k =>
    obtain ⟨hv, he, hk0, hk1⟩ := tiv_some h
    rw [h] at t2
    have v2 : ∀ W, Tabe W → _ := fun W hW => valid_is l true hll hv W hW.1
    have f2 : ∀ W, Tabe W → _ := fun W hW => from_is k l he.symm hk0 hk1 W hW.1
    exact text_ok n s _ k w ht hs f1 t1 (by rw [hl]; exact t2) v1 (by rw [hl]; exact v2) (by rw [hl]; exact f2)
end Go.Proofs.YtkihodadopcioaaGreatDoor
