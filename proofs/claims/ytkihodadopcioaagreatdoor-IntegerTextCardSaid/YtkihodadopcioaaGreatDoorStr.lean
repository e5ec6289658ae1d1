/- Numerals and strings: Valid, parse, both, text, and Add, Sub and the refusals. -/
import Derived.Lib.ItoaNum
import Derived.Test.YtkihodadopcioaaGreatDoorShelf
import Derived.Test.YtkihodadopcioaaGreatDoorArith
import Derived.Shelf.Strings.SlTrimAscii
import Derived.BigQuiet
import Derived.Test.YtkihodadopcioaaGreatDoorSigned
import Derived.Deep.LoopGhost
import Derived.OwnWalk
import Derived.Test.YtkihodadopcioaaGreatDoorProg
import Derived.Shelf.Strings.Builder1
import Derived.Lib.Hide
import Derived.Lib.OthersKept
import Derived.Lib.OwnKind
import Derived.Shelf.RegionOpen
import Derived.Lib.SmallJoins
import Derived.Lib.AppendIntMem
namespace Go.Proofs.YtkihodadopcioaaGreatDoor.Dec
open Go.Lib

def IsDigit (b : UInt8) : Prop := 48 ≤ b.toNat ∧ b.toNat ≤ 57
instance (b : UInt8) : Decidable (IsDigit b) := by unfold IsDigit; exact inferInstance
def Digits (l : List UInt8) : Prop := ∀ b ∈ l, IsDigit b

/-- What a row of digits stands for. -/
def dval (l : List UInt8) : Nat := l.foldl (fun a b => 10 * a + (b.toNat - 48)) 0

theorem dval_from (l : List UInt8) : ∀ a, l.foldl (fun a b => 10 * a + (b.toNat - 48)) a = a * 10 ^ l.length + dval l := by
  induction l with
  | nil => intro a; simp [dval]
  | cons b l ih =>
    intro a
    unfold dval
    simp only [List.foldl_cons, List.length_cons]
    rw [ih, ih (10 * 0 + (b.toNat - 48)), Nat.pow_succ]
    rw [Nat.add_mul, Nat.add_mul, Nat.mul_comm 10 a, Nat.mul_assoc a 10, Nat.mul_comm 10 (10 ^ l.length)]
    omega
theorem dval_nil : dval [] = 0 := rfl
theorem dval_cons (b : UInt8) (l : List UInt8) : dval (b :: l) = (b.toNat - 48) * 10 ^ l.length + dval l := by
  show l.foldl _ _ = _
  rw [dval_from]
  simp
theorem dval_append (l m : List UInt8) : dval (l ++ m) = dval l * 10 ^ m.length + dval m := by
  unfold dval
  rw [List.foldl_append, dval_from]
  rfl
theorem dval_snoc (l : List UInt8) (b : UInt8) : dval (l ++ [b]) = 10 * dval l + (b.toNat - 48) := by
  rw [dval_append]
  simp [dval]
  omega
theorem dval_lt {l : List UInt8} (h : Digits l) : dval l < 10 ^ l.length := by
  induction l with
  | nil => simp [dval]
  | cons b l ih =>
    rw [dval_cons, List.length_cons, Nat.pow_succ]
    have h1 := ih (fun x hx => h x (List.mem_cons_of_mem _ hx))
    have h2 := h b List.mem_cons_self
    unfold IsDigit at h2
    have h3 : (b.toNat - 48) * 10 ^ l.length ≤ 9 * 10 ^ l.length := Nat.mul_le_mul_right _ (by omega)
    omega

theorem digit_toNat {d : Nat} (h : d < 10) : (UInt8.ofNat (48 + d)).toNat = 48 + d := by
  simp [UInt8.toNat_ofNat']
  omega

theorem decDigits_small {u : Nat} (h : u < 10) : decDigits u = [UInt8.ofNat (48 + u)] := by rw [decDigits, dif_pos h]
theorem decDigits_big {u : Nat} (h : ¬ u < 10) : decDigits u = decDigits (u / 10) ++ [UInt8.ofNat (48 + u % 10)] := by rw [decDigits, dif_neg h]

theorem dval_decDigits (u : Nat) : dval (decDigits u) = u := by
  induction u using Nat.strongRecOn with
  | _ u ih =>
    by_cases h : u < 10
    · rw [decDigits_small h]
      show 10 * 0 + _ = _
      rw [digit_toNat h]; omega
    · rw [decDigits_big h, dval_snoc, ih _ (by omega), digit_toNat (by omega)]
      omega
theorem decDigits_digits (u : Nat) : Digits (decDigits u) := by
  induction u using Nat.strongRecOn with
  | _ u ih =>
    by_cases h : u < 10
    · rw [decDigits_small h]
      intro b hb
      simp only [List.mem_singleton] at hb
      subst hb
      unfold IsDigit
      rw [digit_toNat h]; omega
    · rw [decDigits_big h]
      intro b hb
      rcases List.mem_append.1 hb with hb | hb
      · exact ih _ (by omega) b hb
      · simp only [List.mem_singleton] at hb
        subst hb
        unfold IsDigit
        rw [digit_toNat (by omega)]; omega
theorem decDigits_ne (u : Nat) : decDigits u ≠ [] := by
  by_cases h : u < 10
  · rw [decDigits_small h]; simp
  · rw [decDigits_big h]; simp
/-- No zero ahead, but in 0 itself. -/
theorem decDigits_head (u : Nat) : (decDigits u).head? = some 48 ↔ u = 0 := by
  induction u using Nat.strongRecOn with
  | _ u ih =>
    by_cases h : u < 10
    · rw [decDigits_small h]
      simp only [List.head?_cons, Option.some.injEq]
      constructor
      · intro e
        have := congrArg UInt8.toNat e
        rw [digit_toNat h] at this
        simp at this
        exact this
      · rintro rfl; rfl
    · rw [decDigits_big h]
      have e : (decDigits (u / 10) ++ [UInt8.ofNat (48 + u % 10)]).head? = (decDigits (u / 10)).head? := by
        cases hd : decDigits (u / 10) with
        | nil => exact absurd hd (decDigits_ne _)
        | cons b l => rfl
      rw [e, ih _ (by omega)]
      omega

theorem byte_eq {b : UInt8} (h : IsDigit b) : UInt8.ofNat (48 + (b.toNat - 48)) = b := by
  unfold IsDigit at h
  rw [show 48 + (b.toNat - 48) = b.toNat by omega]
  simp

/-- A row of digits without a zero ahead is the numeral of what it stands for. -/
theorem decDigits_dval {l : List UInt8} (h : Digits l) (hne : l ≠ []) (h0 : l = [48] ∨ l.head? ≠ some 48) : decDigits (dval l) = l := by
  rcases h0 with rfl | h0
  · decide +kernel
  · -- by the length, the last digit first
    generalize hn : l.length = n
    induction n generalizing l with
    | zero => exact absurd (List.eq_nil_of_length_eq_zero hn) hne
    | succ n ih =>
      obtain ⟨m, b, rfl⟩ : ∃ m b, l = m ++ [b] := ⟨l.dropLast, l.getLast hne, (List.dropLast_concat_getLast hne).symm⟩
      have hb := h b (by simp)
      have hb' := hb
      unfold IsDigit at hb'
      rw [dval_snoc]
      by_cases hm : m = []
      · subst hm
        rw [dval_nil, decDigits_small (by omega)]
        simp [byte_eq hb]
      · have hm0 : m.head? ≠ some 48 := by
          intro e
          apply h0
          cases m with
          | nil => exact absurd rfl hm
          | cons c m => exact e
        have hd : Digits m := fun x hx => h x (List.mem_append_left _ hx)
        have e := ih hd hm hm0 (by simpa using hn)
        have hpos : dval m ≠ 0 := by
          intro hz
          rw [hz] at e
          have := (decDigits_head 0).2 rfl
          rw [e] at this
          exact hm0 this
        rw [decDigits_big (by omega), show (10 * dval m + (b.toNat - 48)) / 10 = dval m by omega, show (10 * dval m + (b.toNat - 48)) % 10 = b.toNat - 48 by omega, e, byte_eq hb]

theorem decDigits_length (u k : Nat) (hk : 1 ≤ k) : (decDigits u).length ≤ k ↔ u < 10 ^ k := by
  rw [Go.Lib.decDigits_length]
  constructor
  · intro h
    exact Nat.lt_of_lt_of_le (lt_pow_nDigits u) (Nat.pow_le_pow_right (by decide) h)
  · intro h
    induction k generalizing u with
    | zero => omega
    | succ k ih =>
      by_cases hs : u < 10
      · rw [nDigits_small hs]; omega
      · rw [nDigits_big hs]
        rw [Nat.pow_succ] at h
        by_cases hk0 : k = 0
        · subst hk0; simp at h; omega
        · have := ih (u / 10) (by omega) (by omega)
          omega
theorem decDigits_inj {u v : Nat} (h : decDigits u = decDigits v) : u = v := by rw [← dval_decDigits u, ← dval_decDigits v, h]

/-! ### Integers -/
theorem itoa_nonneg {z : Int} (h : 0 ≤ z) : itoa z = decDigits z.natAbs := by
  unfold itoa
  rw [if_neg (by omega)]
  congr 1
  omega
theorem itoa_neg {z : Int} (h : z < 0) : itoa z = 45 :: decDigits z.natAbs := by unfold itoa; rw [if_pos h]
theorem not_minus {u : Nat} {l : List UInt8} : decDigits u ≠ 45 :: l := by
  intro e
  have := decDigits_digits u 45 (by rw [e]; exact List.mem_cons_self)
  revert this
  decide +kernel
theorem itoa_inj {x y : Int} (h : itoa x = itoa y) : x = y := by
  rcases Int.lt_or_le x 0 with hx | hx <;> rcases Int.lt_or_le y 0 with hy | hy
  · rw [itoa_neg hx, itoa_neg hy] at h
    injection h with _ h
    have := decDigits_inj h
    omega
  · rw [itoa_neg hx, itoa_nonneg hy] at h
    exact absurd h.symm not_minus
  · rw [itoa_nonneg hx, itoa_neg hy] at h
    exact absurd h not_minus
  · rw [itoa_nonneg hx, itoa_nonneg hy] at h
    have := decDigits_inj h
    omega

/-- What stands behind a sign. -/
def unsign (l : List UInt8) : List UInt8 := if l.head? = some 45 then l.tail else l
def negSign (l : List UInt8) : Bool := l.head? == some 45
theorem unsign_itoa (z : Int) : unsign (itoa z) = decDigits z.natAbs := by
  unfold unsign
  rcases Int.lt_or_le z 0 with h | h
  · rw [itoa_neg h]; rfl
  · rw [itoa_nonneg h, if_neg]
    intro e
    cases hd : decDigits z.natAbs with
    | nil => exact decDigits_ne _ hd
    | cons b l =>
      rw [hd] at e
      simp at e
      subst e
      exact not_minus hd
theorem negSign_itoa (z : Int) : negSign (itoa z) = decide (z < 0) := by
  unfold negSign
  rcases Int.lt_or_le z 0 with h | h
  · rw [itoa_neg h]; simp [h]
  · rw [itoa_nonneg h]
    have : ¬ z < 0 := by omega
    simp only [this, decide_false]
    cases hd : decDigits z.natAbs with
    | nil => exact absurd hd (decDigits_ne _)
    | cons b l =>
      simp only [List.head?_cons, beq_eq_false_iff_ne, ne_eq, Option.some.injEq]
      rintro rfl
      exact not_minus hd

/-- Whether bytes are a valid integer (of at most 200 digits). -/
def vld (l : List UInt8) : Bool :=
  (decide (unsign l ≠ []) && decide ((unsign l).length ≤ 200) && (unsign l).all (fun b => decide (IsDigit b))) && (decide (l = [48]) || decide ((unsign l).head? ≠ some 48))

theorem vld_itoa (z : Int) (h : z.natAbs < 10 ^ 200) : vld (itoa z) = true := by
  unfold vld
  rw [unsign_itoa]
  have h1 := decDigits_ne z.natAbs
  have h2 := (decDigits_length z.natAbs 200 (by decide)).2 h
  have h3 := decDigits_digits z.natAbs
  have h4 : (decide (itoa z = [48]) || decide ((decDigits z.natAbs).head? ≠ some 48)) = true := by
    by_cases hz : z = 0
    · subst hz
      have : itoa 0 = [48] := by decide +kernel
      rw [this]; rfl
    · have : (decDigits z.natAbs).head? ≠ some 48 := fun e => hz (by have := (decDigits_head z.natAbs).1 e; omega)
      rw [Bool.or_eq_true]
      exact .inr (by simpa using this)
  rw [h4, Bool.and_true]
  simp only [ne_eq, h1, not_false_eq_true, decide_true, h2, Bool.true_and, List.all_eq_true, decide_eq_true_eq]
  exact h3

theorem itoa_of_vld {l : List UInt8} (h : vld l = true) : ∃ z : Int, l = itoa z ∧ z.natAbs < 10 ^ 200 := by
  unfold vld at h
  simp only [Bool.and_eq_true, decide_eq_true_eq, List.all_eq_true, Bool.or_eq_true] at h
  obtain ⟨⟨⟨h1, h2⟩, h3⟩, h4⟩ := h
  have hlt : dval (unsign l) < 10 ^ 200 := Nat.lt_of_lt_of_le (dval_lt h3) (Nat.pow_le_pow_right (by decide) h2)
  by_cases hs : l.head? = some 45
  · have hu : unsign l = l.tail := by unfold unsign; rw [if_pos hs]
    have h5 : l ≠ [48] := by rintro rfl; simp at hs
    have h6 := h4.resolve_left h5
    have e := decDigits_dval h3 h1 (.inr h6)
    have hpos : dval (unsign l) ≠ 0 := by
      intro h0
      rw [h0] at e
      exact h6 (by rw [← e]; exact (decDigits_head 0).2 rfl)
    refine ⟨-(dval (unsign l) : Int), ?_, by simpa using hlt⟩
    rw [itoa_neg (by omega), Int.natAbs_neg, Int.natAbs_natCast, e, hu]
    cases l with
    | nil => simp at hs
    | cons b l => simp at hs; subst hs; rfl
  · have hu : unsign l = l := by unfold unsign; rw [if_neg hs]
    rw [hu] at h1 h3 h4 hlt
    have e := decDigits_dval h3 h1 h4
    refine ⟨(dval l : Int), ?_, by simpa using hlt⟩
    rw [itoa_nonneg (by omega), Int.natAbs_natCast, e]
end Go.Proofs.YtkihodadopcioaaGreatDoor.Dec
namespace Go.Proofs.YtkihodadopcioaaGreatDoor
open Go.Shelf Go.RowKit

theorem trimPrefix_minus (l : List UInt8) : Lib.trimPrefix l [45] = Dec.unsign l := by
  unfold Lib.trimPrefix Lib.hasPrefix Dec.unsign
  cases l with
  | nil => rfl
  | cons b l =>
    by_cases h : b = 45
    · subst h; simp
    · simp [h, Ne.symm h]

def digitBytes : List UInt8 := [48, 49, 50, 51, 52, 53, 54, 55, 56, 57]
theorem digit_mem (b : UInt8) : digitBytes.contains b = decide (Dec.IsDigit b) := by
  have h : ∀ n : Fin 256, digitBytes.contains (UInt8.ofNat n.1) = decide (Dec.IsDigit (UInt8.ofNat n.1)) := by decide +kernel
  have := h ⟨b.toNat, b.toNat_lt⟩
  simpa using this
theorem trimS_nil (l : List UInt8) : Lib.trimS l digitBytes = [] ↔ l.all (fun b => decide (Dec.IsDigit b)) = true := by
  have e : (fun b => digitBytes.contains b) = fun b => decide (Dec.IsDigit b) := funext digit_mem
  unfold Lib.trimS Lib.trimLeftS Lib.trimRightS
  rw [e]
  have hd : ∀ (p : UInt8 → Bool) (m : List UInt8), m.dropWhile p = [] ↔ m.all p = true := by
    intro p m
    induction m with
    | nil => simp
    | cons b m ih =>
      by_cases hb : p b = true
      · simp [hb, ih]
      · simp [hb]
  rw [hd]
  constructor
  · intro h
    have h1 : (l.reverse.dropWhile fun b => decide (Dec.IsDigit b)) = [] := by
      cases hc : l.reverse.dropWhile (fun b => decide (Dec.IsDigit b)) with
      | nil => rfl
      | cons b m =>
        rw [hc, List.all_reverse] at h
        have h2 : decide (Dec.IsDigit b) = true := by
          rw [List.all_eq_true] at h
          exact h b List.mem_cons_self
        have h3 := List.head?_dropWhile_not (fun b => decide (Dec.IsDigit b)) l.reverse
        rw [hc] at h3
        simp only [List.head?_cons] at h3
        rw [h2] at h3
        exact absurd h3 (by decide)
    rw [hd, List.all_reverse] at h1
    exact h1
  · intro h
    have h1 := (hd (fun b => decide (Dec.IsDigit b)) l.reverse).2 (by rw [List.all_reverse]; exact h)
    rw [h1]
    rfl

theorem trim_digits (s : ByteArray) (w : World) (hs : s.size ≤ 9223372036854775807) :
    Calls Tryz.prog 128 #[.string s, .string { data := #[48, 49, 50, 51, 52, 53, 54, 55, 56, 57] }] w fun e w' => e = .returned (.string ⟨(Lib.trimS s.data.toList digitBytes).toArray⟩) ∧ Below w.heap.size w w' :=
  Any.strings_Trim_laid Tryz.lays160 (by kernel_rfl) s ⟨#[48, 49, 50, 51, 52, 53, 54, 55, 56, 57]⟩ w hs (by decide) (ascii_of_all (by decide))

set_option maxRecDepth 100000 in
set_option maxHeartbeats 1000000 in
theorem valid_any (s : ByteArray) (w : World) (hs : s.size ≤ 140737488355328) :
    Calls Tryz.prog 73 #[.string s] w fun e w' => e = .returned (.bool (Dec.vld s.data.toList)) ∧ Below w.heap.size w w' := by
  have HT : ∀ W, Calls Tryz.prog 127 #[.string s, .string { data := #[45] }] W fun e w' => e = .returned (.string ⟨(Dec.unsign s.data.toList).toArray⟩) ∧ w' = W := fun W => by
    rw [← trimPrefix_minus]
    exact Tryz.strings_TrimPrefix s ⟨#[45]⟩ W
  have hv : Hid (Dec.vld s.data.toList = ((decide (Dec.unsign s.data.toList ≠ []) && decide ((Dec.unsign s.data.toList).length ≤ 200) && (Dec.unsign s.data.toList).all (fun b => decide (Dec.IsDigit b))) && (decide (s.data.toList = [48]) || decide ((Dec.unsign s.data.toList).head? ≠ some 48)))) := rfl
  have hul : (Dec.unsign s.data.toList).length ≤ s.size := by
    rw [Lib.size_eq]
    unfold Dec.unsign
    split <;> simp
  generalize Dec.unsign s.data.toList = u at HT hv hul
  generalize Dec.vld s.data.toList = r at hv ⊢
  have HD : ∀ W, Calls Tryz.prog 128 #[.string ⟨u.toArray⟩, .string { data := #[48, 49, 50, 51, 52, 53, 54, 55, 56, 57] }] W fun e w' => (∃ t, e = .returned (.string ⟨t.toArray⟩) ∧ (t = [] ↔ u.all (fun b => decide (Dec.IsDigit b)) = true)) ∧ Below W.heap.size W w' := fun W => by
    refine (trim_digits _ W (by rw [Lib.size_eq]; simp; omega)).mono ?_
    rintro e w' ⟨rfl, hb⟩
    exact ⟨⟨_, rfl, by simpa using trimS_nil u⟩, hb⟩
  by_cases h0 : u = []
  · subst h0
    go_enter Tryz.func73, Tryz.ntmps73
    go_wp2_with (go_at_call 127; refine (HT _).mono ?_; rintro e w1 ⟨rfl, rfl⟩)
    go_ret
    exact ⟨by rw [hv.out]; simp, Below.refl _ _⟩
  by_cases h1 : 200 < u.length
  · go_enter Tryz.func73, Tryz.ntmps73
    go_wp2_with (go_at_call 127; refine (HT _).mono ?_; rintro e w1 ⟨rfl, rfl⟩)
    go_ret
    exact ⟨by rw [hv.out]; simp; omega, Below.refl _ _⟩
  obtain ⟨c, u, rfl⟩ : ∃ c m, u = c :: m := List.exists_cons_of_ne_nil h0
  go_enter Tryz.func73, Tryz.ntmps73
  go_wp2_with (first
    | (go_at_call 127; refine (HT _).mono ?_; rintro e w1 ⟨rfl, rfl⟩)
    | (go_at_call 128; refine (HD _).mono ?_; rintro e w1 ⟨⟨t, rfl, ht⟩, hb⟩))
  all_goals go_ret
  · rename_i h2
    refine ⟨?_, hb⟩
    have : ¬ t = [] := by rintro rfl; simp at h2; omega
    have h3 : ¬ ((c :: u).all fun b => decide (Dec.IsDigit b)) = true := fun e => this (ht.2 e)
    rw [hv.out, Bool.eq_false_iff.2 h3]
    simp
  · rename_i h2 h3
    refine ⟨?_, hb⟩
    have h4 := ht.1 (by simpa using h2.2)
    rw [hv.out, h4]
    simp only [ByteArray.toList_eq] at h3
    simp [h3]
    omega
  · rename_i h2 h3
    refine ⟨?_, hb⟩
    have h4 := ht.1 (by simpa using h2.2)
    rw [hv.out, h4]
    rw [ByteArray.toList_eq] at h3
    have h5 : ¬ 200 < u.length + 1 := by simpa using h1
    show Ending.returned (Value.bool (s.toList == [48] || ((c.toNat : Int) != 48))) = _
    have e : ((c.toNat : Int) != 48) = decide (c ≠ 48) := by
      by_cases hc : c = 48
      · subst hc; rfl
      · have : ¬ ((c.toNat : Int) = 48) := fun e => hc (UInt8.toNat_inj.1 (by show c.toNat = 48; omega))
        simp [hc, this]
    rw [e, ByteArray.toList_eq]
    simp [h3, show u.length ≤ 199 by omega]
  · rename_i h2
    simp at h1
    omega

/-- Valid, too. -/
theorem valid_ex (s : ByteArray) (w : World) (hs : s.size ≤ 140737488355328) :
    Calls Tryz.prog 21 #[.string s] w fun e w' => e = .returned (.bool (Dec.vld s.data.toList)) ∧ Below w.heap.size w w' := by
  go_enter Tryz.func21, Tryz.ntmps21
  go_wp2_with (go_at_call 73; refine (valid_any _ _ hs).mono ?_; rintro e w1 ⟨rfl, hb⟩)
  go_ret
  exact ⟨rfl, hb⟩
end Go.Proofs.YtkihodadopcioaaGreatDoor
namespace Go.Proofs.YtkihodadopcioaaGreatDoor
open Go.Shelf Go.RowKit

namespace Dec
theorem digitVal_digit {b : UInt8} (h : IsDigit b) : Lib.digitVal b = some (b.toNat - 48) := by unfold Lib.digitVal; exact if_pos h
theorem decFrom_digits (l : List UInt8) : ∀ acc, Digits l → Lib.decFrom acc l = some (acc * 10 ^ l.length + dval l) := by
  induction l with
  | nil => intro acc _; simp [Lib.decFrom, dval]
  | cons b l ih =>
    intro acc h
    unfold Lib.decFrom
    rw [digitVal_digit (h b List.mem_cons_self)]
    show Lib.decFrom (acc * 10 + (b.toNat - 48)) l = _
    rw [ih _ (fun x hx => h x (List.mem_cons_of_mem _ hx)), dval_cons, List.length_cons, Nat.pow_succ, Nat.add_mul, Nat.mul_comm (10 ^ l.length) 10, Nat.mul_assoc]
    congr 1
    omega
theorem atoi_digits {l : List UInt8} (h : Digits l) (hne : l ≠ []) : Lib.atoi l = some (dval l : Int) := by
  cases l with
  | nil => exact absurd rfl hne
  | cons b l =>
    have hb := h b List.mem_cons_self
    have h1 : (b == 45) = false := by
      rw [beq_eq_false_iff_ne]; rintro rfl; exact absurd hb (by decide)
    have h2 : (b == 43) = false := by
      rw [beq_eq_false_iff_ne]; rintro rfl; exact absurd hb (by decide)
    show (if b == 45 then (Lib.decNat l).map fun (m : Nat) => -(m : Int) else if b == 43 then (Lib.decNat l).map fun (m : Nat) => (m : Int) else (Lib.decNat (b :: l)).map fun (m : Nat) => (m : Int)) = _
    rw [h1, h2]
    show (Lib.decNat (b :: l)).map _ = _
    unfold Lib.decNat
    show (Lib.decFrom 0 (b :: l)).map _ = _
    rw [decFrom_digits _ _ h]
    simp
end Dec

/-- The four last digits. -/
theorem chunk {m : List UInt8} (h : Dec.Digits m) (hne : m ≠ []) : ∃ a c, m = a ++ c ∧ a.length = m.length - 4 ∧ c ≠ [] ∧ c.length ≤ 4 ∧ (a ≠ [] → c.length = 4) ∧ Dec.Digits a ∧ Dec.Digits c ∧ Dec.dval c < 10000 ∧ Lib.atoi c = some (Dec.dval c : Int) := by
  have hlen : 0 < m.length := List.length_pos_iff.2 hne
  have hc : (m.drop (m.length - 4)).length ≤ 4 := by rw [List.length_drop]; omega
  have hcn : m.drop (m.length - 4) ≠ [] := by
    rw [← List.length_pos_iff, List.length_drop]; omega
  have hd : Dec.Digits (m.drop (m.length - 4)) := fun b hb => h b (List.mem_of_mem_drop hb)
  refine ⟨m.take (m.length - 4), m.drop (m.length - 4), (List.take_append_drop _ _).symm, by rw [List.length_take]; omega, hcn, hc, fun ha => ?_, fun b hb => h b (List.mem_of_mem_take hb), hd, ?_, Dec.atoi_digits hd hcn⟩
  · rw [← List.length_pos_iff, List.length_take] at ha
    rw [List.length_drop]; omega
  · have := Dec.dval_lt hd
    exact Nat.lt_of_lt_of_le this (Nat.pow_le_pow_right (by decide) hc)

/-- A row of one's own stays one under what changes no older block. -/
theorem own_later {w w' : World} {base size n : Nat} {e : TypeId} {v : Value} {xs : List Value} (h : w.ownsRow base e size v n xs) (hb : Below w.heap.size w w') : w'.ownsRow base e size v n xs := by
  rcases h with ⟨h1, h2 | ⟨g, cap, cur, rfl, hg, hh, hr⟩⟩
  · exact ⟨h1, .inl h2⟩
  · exact ⟨h1, .inr ⟨g, cap, cur, rfl, hg, (hb.block g (Array.getElem?_eq_some_iff.1 hh).1).trans hh, hr⟩⟩

theorem Boxed2.grown {w w' : World} {B : Nat} {t : TypeId} {u v : Value} {row : Option Nat} (h : Boxed2 w B t u v) (hg : w.grownBy w' row) (hne : row ≠ some B) : Boxed2 w' B t u v := (hg.block B h.lt (fun e => hne e.symm)).trans h
theorem extract_tail (a c : List UInt8) : (⟨(a ++ c).toArray⟩ : ByteArray).extract a.length (a.length + c.length) = ⟨c.toArray⟩ := by
  apply ByteArray.ext
  simp [ByteArray.data_extract]
theorem extract_head (a c : List UInt8) : (⟨(a ++ c).toArray⟩ : ByteArray).extract 0 a.length = ⟨a.toArray⟩ := by
  apply ByteArray.ext
  simp [ByteArray.data_extract]
theorem atoi_tail (a c : List UInt8) (n : Nat) (W : World) (hc4 : c.length ≤ 4) (h : Lib.atoi c = some (n : Int)) :
    Calls Tryz.prog 87 #[.string ((⟨(a ++ c).toArray⟩ : ByteArray).extract a.length (a.length + c.length))] W fun e w' => e = .returned (.tuple #[.int .i64 (n : Int), .nilIface]) ∧ Below W.heap.size W w' := by
  rw [extract_tail]
  refine (Tryz.strconv_Atoi ⟨c.toArray⟩ (n : Int) (by rw [Lib.size_eq]; simp; omega) h W).mono ?_
  rintro e w' ⟨rfl, t, rfl⟩
  exact ⟨rfl, Lib.bytesWorld_below _ _ _⟩

/-- What a round of 'parse' keeps: what is left of the digits, and the groups so far. -/
structure Parsed (u m : List UInt8) (l : List Nat) : Prop where
  sum : Dec.dval u = Num.val l + 10000 ^ l.length * Dec.dval m
  dig : Num.Dig l
  dgs : Dec.Digits m
  len : 4 * l.length + m.length ≤ u.length + 4
  len4 : m ≠ [] → 4 * l.length + m.length = u.length
theorem Parsed.next {u a c : List UInt8} {l : List Nat} (h : Parsed u (a ++ c) l) (h4 : a ≠ [] → c.length = 4) (hc : c ≠ []) (hc4 : c.length ≤ 4) (hlt : Dec.dval c < 10000) : Parsed u a (l ++ [Dec.dval c]) := by
  have hd : Dec.Digits a := fun b hb => h.dgs b (List.mem_append_left _ hb)
  have hlen := h.len4 (by simp [hc])
  rw [List.length_append] at hlen
  refine ⟨?_, Num.Dig.append h.dig (by intro x hx; simp at hx; omega), hd, ?_, fun ha => ?_⟩
  · rw [h.sum, Dec.dval_append, Num.val_append]
    by_cases ha : a = []
    · subst ha
      simp [Dec.dval, Num.val]
    · rw [h4 ha]
      have e1 : Dec.dval a * 10 ^ 4 = 10000 * Dec.dval a := Nat.mul_comm _ _
      have e2 : 10000 ^ l.length * 10000 * Dec.dval a = 10000 ^ l.length * (10000 * Dec.dval a) := Nat.mul_assoc _ _ _
      simp only [List.length_append, List.length_singleton, Num.val, Nat.mul_add, Nat.mul_zero, Nat.add_zero] at *
      rw [e1, Nat.pow_succ, e2]
      omega
  · simp only [List.length_append, List.length_singleton]
    have := List.length_pos_iff.2 hc
    omega
  · simp only [List.length_append, List.length_singleton]
    have := h4 ha
    omega

set_option maxRecDepth 100000 in
set_option maxHeartbeats 2000000 in
theorem parse_any (l : List UInt8) (w : World) (hl : l.length ≤ 1000000) (hd : Dec.Digits (Dec.unsign l)) :
    Calls Tryz.prog 120 #[.string ⟨l.toArray⟩] w fun e w' => (∃ x, e = .returned x ∧ IsSig w'.heap.size w' x (decide ((Dec.unsign l).length < l.length)) (Dec.dval (Dec.unsign l))) ∧ Below w.heap.size w w' := by
  obtain ⟨i0, hi, hz0, hz1, hz2⟩ := info_parts int_info
  have HT : ∀ W, Calls Tryz.prog 127 #[.string ⟨l.toArray⟩, .string { data := #[45] }] W fun e w' => e = .returned (.string ⟨(Dec.unsign l).toArray⟩) ∧ w' = W := fun W => by
    rw [← trimPrefix_minus]
    exact Tryz.strings_TrimPrefix ⟨l.toArray⟩ ⟨#[45]⟩ W
  have hul : (Dec.unsign l).length ≤ l.length := by
    unfold Dec.unsign
    split <;> simp
  generalize Dec.unsign l = u at HT hul hd ⊢
  have HD := Lib.hid hd
  clear hd
  have b0 := Boxed2.new w 94 (.bool false) (.slice none 0 0)
  have b0' := b0.alloc (.cells #[.bool (decide (u.length < l.length)), .slice none 0 0] 94)
  have b1 := Boxed2.new (w.alloc (.cells #[.bool false, .slice none 0 0] 94)) 94 (.bool (decide (u.length < l.length))) (.slice none 0 0)
  have hbw : Below w.heap.size w ((w.alloc (.cells #[.bool false, .slice none 0 0] 94)).alloc (.cells #[.bool (decide (u.length < l.length)), .slice none 0 0] 94)) := ((Below.refl _ w).alloc (Nat.le_refl _) _).alloc (by simp) _
  have hsz : ((w.alloc (.cells #[.bool false, .slice none 0 0] 94)).alloc (.cells #[.bool (decide (u.length < l.length)), .slice none 0 0] 94)).heap.size = w.heap.size + 2 := by simp
  simp only [World.size_alloc] at b1
  go_enter Tryz.func120, Tryz.ntmps120
  go_wp2_with (go_at_call 127; refine (HT _).mono ?_; rintro e w1 ⟨rfl, rfl⟩)
  generalize hng : decide (u.length < l.length) = ng at b1 b0' hbw hsz ⊢
  have HG := Lib.hid hng
  clear hng
  generalize (w.alloc (.cells #[.bool false, .slice none 0 0] 94)).alloc (.cells #[.bool ng, .slice none 0 0] 94) = W at b1 b0' hbw hsz ⊢
  go_loopg [3] u.length (fun kx s wr => ∃ (m : List UInt8) (o : List Nat) (v : Value), s = .string ⟨m.toArray⟩ ∧ kx = m.length ∧ Boxed2 wr (w.heap.size + 1) 94 (.bool ng) v ∧ Boxed2 wr w.heap.size 94 (.bool false) (.slice none 0 0) ∧
    wr.ownsRow (w.heap.size + 2) 3 1 v o.length (o.map dv) ∧ Below w.heap.size w wr ∧ w.heap.size + 2 ≤ wr.heap.size ∧ Hid (Parsed u m o))
  case atStart => exact ⟨u, [], .slice none 0 0, rfl, rfl, b1, b0', World.ownsRow_nil _ _ _ _, hbw, by omega, Lib.hid ⟨by simp [Num.val], by simp [Num.Dig], HD.out, by simp, fun _ => by simp⟩⟩
  case round =>
    obtain ⟨m, o, v, rfl, hkx, bx, br, hown, hbr, hsr, HI⟩ := hrel
    clear b0 b0' b1 hbw hsz
    by_cases hm : m = []
    · subst hm
      have hov := row_of_own hown
      obtain ⟨pa, pc, rfl, hcap, hrow, -⟩ := hov
      have hol : o.length ≤ 1000000000 := by have := HI.out.len; simp at this; omega
      have hval : Num.val o = Dec.dval u := by rw [HI.out.sum]; simp [Dec.dval]
      have HR := Lib.hid (trimmed_any wr.heap.size wr pa o pc HI.out.dig hcap hol hrow)
      rw [hval] at HR
      have cx0 := bx.cell0
      have cx1 := bx.cell1
      have fx1 := bx.frozen1
      have cy0 := br.cell0
      have cy1 := br.cell1
      have fy0 := br.frozen0
      have fy1 := br.frozen1
      clear hown hrow hval
      go_wp2_with (go_at_call 129; refine HR.out.mono ?_; rintro e w' ⟨⟨pv, rfl, hpv⟩, rfl⟩; have hpn := Lib.hid hpv; obtain ⟨pa', pc', rfl, -, -⟩ := hpv)
      have bx3 := bx.set1 (.slice pa' (Num.gl (Dec.dval u)) pc')
      have hE := sig_end (w := w) (W := wr.setCell ⟨w.heap.size + 1, 1, none⟩ (.slice pa' (Num.gl (Dec.dval u)) pc')) (C := w.heap.size) (g := ng) (Nat.le_refl _) ((Below.heap_setCell wr ⟨w.heap.size + 1, 1, none⟩ _ w.heap.size (by simp)).trans br) (hbr.setCell (p := ⟨w.heap.size + 1, 1, none⟩) (by simp) _) (by rw [setCell_size]; exact hpn.out.set_box2 bx (p := ⟨w.heap.size + 1, 1, none⟩) rfl _)
      refine bodyPost_ret (v := .agg #[.bool ng, .slice pa' (Num.gl (Dec.dval u)) pc']) ?_ rfl ⟨⟨_, rfl, by rw [HG.out]; exact hE.2.1⟩, hE.2.2⟩
      simp [results, Tryz.results120, go_sem, hE.1.1, hE.1.2]
    · obtain ⟨a, c, rfl, ha, hc, hc4, ha4, hda, hdc, hv, hat⟩ := chunk HI.out.dgs hm
      have hol : o.length ≤ 1000000000 := by have := HI.out.len; omega
      have HN := Lib.hid (HI.out.next ha4 hc hc4 hv)
      have HA := Lib.hid ha
      have HC := Lib.hid hc
      have hmx : max 0 (wrap64 ((a.length : Int) + (c.length : Int) - 4)) = (a.length : Int) := by
        have := List.length_pos_iff.2 hc
        have hb := HI.out.len
        rw [List.length_append] at ha hb
        unfold wrap64
        omega
      have hpos : (0 : Int) < (a.length : Int) + (c.length : Int) := by
        have := List.length_pos_iff.2 hc
        omega
      clear ha hc ha4 hda hdc hm
      have HAT := fun W => Lib.hid (atoi_tail a c (Dec.dval c) W hc4 hat)
      clear hat
      generalize Dec.dval c = dc at *
      go_wp2_with fail
      refine (HAT _).out.mono ?_
      rintro e w2 ⟨rfl, hb2⟩
      have bx2 := bx.below hb2
      have br2 := br.below hb2
      have own2 := own_later hown hb2
      have cx1 := bx2.cell1
      have fx1 := bx2.frozen1
      go_wp2_with ((at_builtin; refine wpList_append_own _ rfl _ _ 92 rfl (w.heap.size + 2) 3 i0 (.int .i64 0) 1 8 Tryz.underlying92 hi hz0 hz1 hz2 rfl (by decide) _ _ _ rfl (own2.alloc _) ⟨w2.heap.size, 0, none⟩ 1 1 [.int .i64 (dc : Int)] rfl rfl (cell_one_new _ _ _) (by simp [Value.oneCell']) (by unfold maxLen; omega) (by omega) (by have := hb2.size; simp; omega) ?_))
      intro v' w3 hown' hgrow _
      have bx3 := (bx2.alloc _).grown hgrow (fun e => by have := (own2.lt _ e).1; omega)
      have br3 := (br2.alloc _).grown hgrow (fun e => by have := (own2.lt _ e).1; omega)
      have fx3 := bx3.frozen1
      have cx3 := bx3.cell1
      have hsz2 := hb2.size
      have hb3 : Below w.heap.size w w3 := ((hbr.trans (hb2.mono hbr.size)).alloc (by omega) _).grown hgrow (by simp; omega) (fun k e => by have := (own2.lt _ e).1; omega)
      have hsz3 := hgrow.size
      obtain ⟨pa, pn, pc, rfl⟩ : ∃ pa pn pc, v' = .slice pa pn pc := by
        rcases hown'.2 with ⟨hv, _⟩ | ⟨g, cap, cur, hv, _⟩
        · exact ⟨_, _, _, hv⟩
        · exact ⟨_, _, _, hv⟩
      go_wp2
      go_roundg a.length
      case measure =>
        have := List.length_pos_iff.2 HC.out
        have e := hkx
        rw [List.length_append] at e; omega
      case rel =>
        refine ⟨a, o ++ [dc], .slice pa pn pc, by rw [extract_head], rfl, bx3.set1 _, ?_, ?_, hb3.setCell (p := ⟨w.heap.size + 1, 1, none⟩) (by simp) _, by rw [setCell_size]; simp at hsz3; omega, HN⟩
        · exact (Below.heap_setCell w3 ⟨w.heap.size + 1, 1, none⟩ _ w.heap.size (by simp)).trans br3
        · refine ownsRow_setCell_below ?_ (by simp) _
          rw [List.length_append, List.map_append]
          exact hown'

theorem unsign_itoa_lt (z : Int) : decide ((Dec.unsign (Lib.itoa z)).length < (Lib.itoa z).length) = decide (z < 0) := by
  rw [Dec.unsign_itoa]
  rcases Int.lt_or_le z 0 with h | h
  · rw [Dec.itoa_neg h]; simp [h]
  · rw [Dec.itoa_nonneg h]
    have : ¬ z < 0 := by omega
    simp [this]
theorem itoa_length (z : Int) (h : z.natAbs < 10 ^ 200) : (Lib.itoa z).length ≤ 201 := by
  have h2 := (Dec.decDigits_length z.natAbs 200 (by decide)).2 h
  rcases Int.lt_or_le z 0 with h | h
  · rw [Dec.itoa_neg h, List.length_cons]; omega
  · rw [Dec.itoa_nonneg h]; omega

/-- 'parse' of a number's text. -/
theorem parse_itoa (z : Int) (w : World) (hz : z.natAbs < 10 ^ 200) :
    Calls Tryz.prog 120 #[.string ⟨(Lib.itoa z).toArray⟩] w fun e w' => (∃ x, e = .returned x ∧ IsSig w'.heap.size w' x (decide (z < 0)) z.natAbs) ∧ Below w.heap.size w w' := by
  have h := parse_any (Lib.itoa z) w (by have := itoa_length z hz; omega) (by rw [Dec.unsign_itoa]; exact Dec.decDigits_digits _)
  rw [unsign_itoa_lt, Dec.unsign_itoa, Dec.dval_decDigits] at h
  exact h
end Go.Proofs.YtkihodadopcioaaGreatDoor
namespace Go.Proofs.YtkihodadopcioaaGreatDoor
open Go.Shelf Go.RowKit

/-- A text as a value. -/
abbrev txt (l : List UInt8) : Value := .string ⟨l.toArray⟩

theorem Boxed2.set {W : World} {B : Nat} {t : TypeId} {u v : Value} (h : Boxed2 W B t u v) {p : Addr} (hp : p.block ≠ B) (x : Value) : Boxed2 (W.setCell p x) B t u v := (Below.heap_setCell W p x B hp.symm).trans h

/-- Two structs are filled. -/
def filled (W : World) (C1 C2 : Nat) (g1 g2 : Bool) (v1 v2 : Value) : World := (((W.setCell ⟨C1, 0, none⟩ (.bool g1)).setCell ⟨C1, 1, none⟩ v1).setCell ⟨C2, 0, none⟩ (.bool g2)).setCell ⟨C2, 1, none⟩ v2
theorem filled_cells {W : World} {C1 C2 : Nat} {t1 t2 : TypeId} {u1 w1 u2 w2 : Value} (h1 : Boxed2 W C1 t1 u1 w1) (h2 : Boxed2 W C2 t2 u2 w2) (hne : C1 ≠ C2) (g1 g2 : Bool) (v1 v2 : Value) :
    Boxed2 (filled W C1 C2 g1 g2 v1 v2) C1 t1 (.bool g1) v1 ∧ Boxed2 (filled W C1 C2 g1 g2 v1 v2) C2 t2 (.bool g2) v2 :=
  ⟨(((h1.set0 _).set1 _).set hne.symm _).set hne.symm _, (((h2.set hne _).set hne _).set0 _).set1 _⟩
theorem filled_below {w W : World} {C1 C2 : Nat} (hb : Below w.heap.size w W) (h1 : w.heap.size ≤ C1) (h2 : w.heap.size ≤ C2) (g1 g2 : Bool) (v1 v2 : Value) : Below w.heap.size w (filled W C1 C2 g1 g2 v1 v2) :=
  (((hb.setCell (p := ⟨C1, 0, none⟩) h1 _).setCell (p := ⟨C1, 1, none⟩) h1 _).setCell (p := ⟨C2, 0, none⟩) h2 _).setCell (p := ⟨C2, 1, none⟩) h2 _
theorem filled_num {W : World} {C1 C2 B : Nat} {t1 t2 : TypeId} {f1 f2 : Bool} {a1 a2 : Option Addr} {n1 n2 c1 c2 : Nat} (h1 : Boxed2 W C1 t1 (.bool f1) (.slice a1 n1 c1)) (h2 : Boxed2 W C2 t2 (.bool f2) (.slice a2 n2 c2)) (hne : C1 ≠ C2) (g1 g2 : Bool) (b1 b2 : Option Addr) (m1 m2 d1 d2 : Nat)
    {v : Value} {x : Nat} (h : IsNum B W v x) : IsNum B (filled W C1 C2 g1 g2 (.slice b1 m1 d1) (.slice b2 m2 d2)) v x := by
  have k1 := h.set_box2 h1 (p := ⟨C1, 0, none⟩) rfl (.bool g1)
  have k2 := k1.set_box2 (h1.set0 (.bool g1)) (p := ⟨C1, 1, none⟩) rfl (.slice b1 m1 d1)
  have e2 := (h2.set (p := ⟨C1, 0, none⟩) hne (.bool g1)).set (p := ⟨C1, 1, none⟩) hne (.slice b1 m1 d1)
  have k3 := k2.set_box2 e2 (p := ⟨C2, 0, none⟩) rfl (.bool g2)
  exact k3.set_box2 (e2.set0 (.bool g2)) (p := ⟨C2, 1, none⟩) rfl (.slice b2 m2 d2)

set_option maxRecDepth 100000 in
set_option maxHeartbeats 2000000 in
theorem both_no (l m : List UInt8) (w : World) (hl : l.length ≤ 1000000) (hm : m.length ≤ 1000000) (hv : (Dec.vld l && Dec.vld m) = false) :
    Calls Tryz.prog 68 #[txt l, txt m] w fun e w' => e = .returned (.tuple #[.agg #[.bool false, .slice none 0 0], .agg #[.bool false, .slice none 0 0], .bool false]) ∧ Below w.heap.size w w' := by
  have V1 := fun W => valid_any ⟨l.toArray⟩ W (by rw [Lib.size_eq]; simp; omega)
  have V2 := fun W => valid_any ⟨m.toArray⟩ W (by rw [Lib.size_eq]; simp; omega)
  simp only at V1 V2
  have b1 := (Boxed2.new w 94 (.bool false) (.slice none 0 0)).alloc (.cells #[.bool false, .slice none 0 0] 94)
  have b2 := Boxed2.new (w.alloc (.cells #[.bool false, .slice none 0 0] 94)) 94 (.bool false) (.slice none 0 0)
  have hbw : Below w.heap.size w ((w.alloc (.cells #[.bool false, .slice none 0 0] 94)).alloc (.cells #[.bool false, .slice none 0 0] 94)) := ((Below.refl _ w).alloc (Nat.le_refl _) _).alloc (by simp) _
  simp only [World.size_alloc] at b2
  cases h1 : Dec.vld l with
  | false =>
    rw [h1] at V1
    go_enter Tryz.func68, Tryz.ntmps68
    go_wp2_with (go_at_call 73; refine (V1 _).mono ?_; rintro e w1 ⟨rfl, hb⟩; have x1 := b1.below hb; have x2 := b2.below hb; have c10 := x1.cell0; have c11 := x1.cell1; have f10 := x1.frozen0; have f11 := x1.frozen1; have c20 := x2.cell0; have c21 := x2.cell1; have f20 := x2.frozen0; have f21 := x2.frozen1)
    have hf := filled_cells x1 x2 (by simp) false false (.slice none 0 0) (.slice none 0 0)
    have hfb := filled_below (hbw.trans (hb.mono hbw.size)) (Nat.le_refl _) (Nat.le_succ _) false false (.slice none 0 0) (.slice none 0 0)
    have k1 := hf.1.cell0
    have k2 := hf.1.cell1
    have k3 := hf.2.cell0
    have k4 := hf.2.cell1
    unfold filled at k1 k2 k3 k4 hfb
    refine bodyPost_ret (v := .tuple #[.agg #[.bool false, .slice none 0 0], .agg #[.bool false, .slice none 0 0], .bool false]) ?_ rfl ⟨rfl, hfb⟩
    simp [results, Tryz.results68, go_sem, k1, k2, k3, k4]
  | true =>
    have h2 : Dec.vld m = false := by simpa [h1] using hv
    rw [h1] at V1
    rw [h2] at V2
    go_enter Tryz.func68, Tryz.ntmps68
    go_wp2_with fail
    refine (V1 _).mono ?_
    rintro e w0 ⟨rfl, hb0⟩
    go_wp2_with fail
    refine (V2 _).mono ?_
    rintro e w1 ⟨rfl, hb1⟩
    have hb := hb0.trans (hb1.mono hb0.size)
    have x1 := b1.below hb
    have x2 := b2.below hb
    have c10 := x1.cell0
    have c11 := x1.cell1
    have f10 := x1.frozen0
    have f11 := x1.frozen1
    have c20 := x2.cell0
    have c21 := x2.cell1
    have f20 := x2.frozen0
    have f21 := x2.frozen1
    go_wp2
    have hf := filled_cells x1 x2 (by simp) false false (.slice none 0 0) (.slice none 0 0)
    have hfb := filled_below (hbw.trans (hb.mono hbw.size)) (Nat.le_refl _) (Nat.le_succ _) false false (.slice none 0 0) (.slice none 0 0)
    have k1 := hf.1.cell0
    have k2 := hf.1.cell1
    have k3 := hf.2.cell0
    have k4 := hf.2.cell1
    unfold filled at k1 k2 k3 k4 hfb
    refine bodyPost_ret (v := .tuple #[.agg #[.bool false, .slice none 0 0], .agg #[.bool false, .slice none 0 0], .bool false]) ?_ rfl ⟨rfl, hfb⟩
    simp [results, Tryz.results68, go_sem, k1, k2, k3, k4]

set_option maxRecDepth 100000 in
set_option maxHeartbeats 2000000 in
theorem both_yes (x y : Int) (w : World) (hx : x.natAbs < 10 ^ 200) (hy : y.natAbs < 10 ^ 200) :
    Calls Tryz.prog 68 #[txt (Lib.itoa x), txt (Lib.itoa y)] w fun e w' => (∃ u v, e = .returned (.tuple #[u, v, .bool true]) ∧ IsSig w'.heap.size w' u (decide (x < 0)) x.natAbs ∧ IsSig w'.heap.size w' v (decide (y < 0)) y.natAbs) ∧ Below w.heap.size w w' := by
  have V1 := fun W => valid_any ⟨(Lib.itoa x).toArray⟩ W (by have := itoa_length x hx; rw [Lib.size_eq]; simp; omega)
  have V2 := fun W => valid_any ⟨(Lib.itoa y).toArray⟩ W (by have := itoa_length y hy; rw [Lib.size_eq]; simp; omega)
  simp only [Dec.vld_itoa x hx, Dec.vld_itoa y hy] at V1 V2
  have P1 := fun W => parse_itoa x W hx
  have P2 := fun W => parse_itoa y W hy
  generalize Lib.itoa x = l at V1 P1 ⊢
  generalize Lib.itoa y = m at V2 P2 ⊢
  have b1 := (Boxed2.new w 94 (.bool false) (.slice none 0 0)).alloc (.cells #[.bool false, .slice none 0 0] 94)
  have b2 := Boxed2.new (w.alloc (.cells #[.bool false, .slice none 0 0] 94)) 94 (.bool false) (.slice none 0 0)
  have hbw : Below w.heap.size w ((w.alloc (.cells #[.bool false, .slice none 0 0] 94)).alloc (.cells #[.bool false, .slice none 0 0] 94)) := ((Below.refl _ w).alloc (Nat.le_refl _) _).alloc (by simp) _
  simp only [World.size_alloc] at b2
  go_enter Tryz.func68, Tryz.ntmps68
  go_wp2_with fail
  refine (V1 _).mono ?_
  rintro e w0 ⟨rfl, hb0⟩
  go_wp2_with fail
  refine (V2 _).mono ?_
  rintro e w1 ⟨rfl, hb1⟩
  have hb2 := hb0.trans (hb1.mono hb0.size)
  go_wp2_with fail
  refine (P1 _).mono ?_
  rintro e w2 ⟨⟨u, rfl, hu⟩, hb3⟩
  go_wp2_with fail
  refine (P2 _).mono ?_
  rintro e w3 ⟨⟨v, rfl, hv⟩, hb4⟩
  have hu' := Lib.hid (hu.later hb4)
  obtain ⟨uv, rfl, hun⟩ := hu.later hb4
  obtain ⟨vv, rfl, hvn⟩ := hv
  have hun' := Lib.hid hun
  have hvn' := Lib.hid hvn
  obtain ⟨ua, uc, rfl, -, -⟩ := hun
  obtain ⟨va, vc, rfl, -, -⟩ := hvn
  clear hu
  have hb := (hb2.trans (hb3.mono hb2.size)).trans (hb4.mono (Nat.le_trans hb2.size hb3.size))
  have x1 := b1.below hb
  have x2 := b2.below hb
  have c10 := x1.cell0
  have c11 := x1.cell1
  have f10 := x1.frozen0
  have f11 := x1.frozen1
  have c20 := x2.cell0
  have c21 := x2.cell1
  have f20 := x2.frozen0
  have f21 := x2.frozen1
  go_wp2
  have hf := filled_cells x1 x2 (by simp) (decide (x < 0)) (decide (y < 0)) (.slice ua (Num.gl x.natAbs) uc) (.slice va (Num.gl y.natAbs) vc)
  have hfb := filled_below (hbw.trans (hb.mono hbw.size)) (Nat.le_refl _) (Nat.le_succ _) (decide (x < 0)) (decide (y < 0)) (.slice ua (Num.gl x.natAbs) uc) (.slice va (Num.gl y.natAbs) vc)
  have n1 := filled_num x1 x2 (by simp) (decide (x < 0)) (decide (y < 0)) ua va (Num.gl x.natAbs) (Num.gl y.natAbs) uc vc hun'.out
  have n2 := filled_num x1 x2 (by simp) (decide (x < 0)) (decide (y < 0)) ua va (Num.gl x.natAbs) (Num.gl y.natAbs) uc vc hvn'.out
  have k1 := hf.1.cell0
  have k2 := hf.1.cell1
  have k3 := hf.2.cell0
  have k4 := hf.2.cell1
  unfold filled at k1 k2 k3 k4 hfb n1 n2
  refine bodyPost_ret (v := .tuple #[.agg #[.bool (decide (x < 0)), .slice ua (Num.gl x.natAbs) uc], .agg #[.bool (decide (y < 0)), .slice va (Num.gl y.natAbs) vc], .bool true]) ?_ rfl ⟨⟨_, _, rfl, ⟨_, rfl, ?_⟩, ⟨_, rfl, ?_⟩⟩, hfb⟩
  · simp [results, Tryz.results68, go_sem, k1, k2, k3, k4]
  · simpa [setCell_size] using n1
  · simpa [setCell_size] using n2
end Go.Proofs.YtkihodadopcioaaGreatDoor
namespace Go.Proofs.YtkihodadopcioaaGreatDoor
open Go.Shelf Go.RowKit

theorem sizeBuilder : (Tryz.prog.info? 148).map (·.size) = some 2 := by kernel_rfl
theorem liesBuilder : liesAt Tryz.prog Tryz.prog.depth 148 (2 / Tryz.prog.cellsOf 148) 0 148 1 = true := by kernel_rfl
theorem infoByte : (Tryz.prog.info? 5).map (fun i => (i.zero, i.size, i.bytes)) = some (some (.int .u8 0), 1, 1) := by kernel_rfl

set_option maxHeartbeats 1000000 in
set_option maxRecDepth 100000 in
/-- copyCheck at a builder that has been used: nothing turns. -/
theorem copyCheck_used (b : Nat) (w : World) (h0 : w.cell? ⟨b, 0, none⟩ = some (.pointer (some ⟨b, 0, none⟩))) :
    Calls Tryz.prog 161 #[.pointer (some ⟨b, 0, none⟩)] w fun e w' => e = .returned (.tuple #[]) ∧ w' = w := by
  obtain ⟨j, hj, _⟩ := Option.map_eq_some_iff.1 sizeBuilder
  go_enter Tryz.func161, Tryz.ntmps161
  go_wp2
  rw [Lib.run_neq_ptr_same w _ Tryz.underlying146 hj]
  go_wp2
  go_end0
  exact ⟨rfl, rfl⟩

set_option maxHeartbeats 1000000 in
set_option maxRecDepth 100000 in
/-- copyCheck at a fresh builder: it stores its own address. -/
theorem copyCheck_fresh (b : Nat) (w : World) (h0 : w.cell? ⟨b, 0, none⟩ = some (.pointer none)) (hsh : w.shape? b = some (148, 2)) (hfz : w.frozen? ⟨b, 0, none⟩ = false) :
    Calls Tryz.prog 161 #[.pointer (some ⟨b, 0, none⟩)] w fun e w' => e = .returned (.tuple #[]) ∧ w' = w.setCell ⟨b, 0, none⟩ (.pointer (some ⟨b, 0, none⟩)) := by
  obtain ⟨j, hj, hjs⟩ := Option.map_eq_some_iff.1 sizeBuilder
  go_enter Tryz.func161, Tryz.ntmps161
  go_wp2
  rw [Lib.run_to_unsafe w ⟨b, 0, none⟩ Tryz.underlying146 Tryz.underlying204 hj (by rw [hjs]; decide) hsh (Nat.zero_lt_succ 1)]
  simp only [Result.andThen]
  rw [Oper.upon_value]
  go_wp2
  rw [run_callFunc_extern Tryz.func189 (by kernel_rfl) (by kernel_rfl) (by kernel_rfl) (e := Extern.AbiNoEscape.same) (by kernel_rfl)]
  rw [Lib.run_noEscape]
  simp only [Result.andThen]
  rw [Oper.upon_value]
  go_wp2
  rw [Lib.run_from_unsafe w ⟨b, 0, none⟩ Tryz.underlying204 Tryz.underlying146 hj hsh liesBuilder]
  simp only [Result.andThen]
  rw [Oper.upon_value]
  go_wp2
  go_end0
  exact ⟨rfl, rfl⟩

theorem copyCheck_any (B b : Nat) (bs : List Value) (w : World) (h : Lib.IsBuilder 148 5 B b bs w) :
    Calls Tryz.prog 161 #[.pointer (some ⟨b, 0, none⟩)] w fun e w' => e = .returned (.tuple #[]) ∧ (Lib.BuilderAt 148 5 B b (.pointer (some ⟨b, 0, none⟩)) bs w' ∧ Below B w w' ∧ Lib.OthersKept 5 (some b) w w') := by
  rcases h with h | h
  · refine (copyCheck_fresh b w h.cell0 h.shape h.frozen0).mono ?_
    rintro e w' ⟨rfl, rfl⟩
    exact ⟨rfl, h.used _, (Below.refl B w).setCell (p := ⟨b, 0, none⟩) h.1 _, (Lib.OthersKept.refl _ (some b) w).setCell ⟨b, 0, none⟩ rfl _⟩
  · refine (copyCheck_used b w h.cell0).mono ?_
    rintro e w' ⟨rfl, rfl⟩
    exact ⟨rfl, h, Below.refl B _, Lib.OthersKept.refl _ _ _⟩

set_option maxHeartbeats 2000000 in
set_option maxRecDepth 100000 in
/-- WriteString: the builder holds the bytes of s behind what it held. -/
theorem writeString_any (B b : Nat) (bs : List Value) (s : ByteArray) (w : World) (h : Lib.IsBuilder 148 5 B b bs w) (hlen : bs.length + s.size ≤ 140737488355328) (hBw : B ≤ w.heap.size) :
    Calls Tryz.prog 123 #[.pointer (some ⟨b, 0, none⟩), .string s] w fun e w' => e = .returned (.tuple #[.int .i64 s.size, .nilIface]) ∧ (Lib.BuilderAt 148 5 B b (.pointer (some ⟨b, 0, none⟩)) (bs ++ Lib.strCells s) w' ∧ Below B w w' ∧ Lib.OthersKept 5 (some b) w w') := by
  obtain ⟨i0, hi, hz0, hz1, hz2⟩ := info_parts infoByte
  go_enter Tryz.func123, Tryz.ntmps123
  go_wp2_with (go_at_call 161; refine (copyCheck_any B b bs _ h).mono ?_)
  rintro e w1 ⟨rfl, h1, hb1, ho1⟩
  obtain ⟨hB, v, hbk, hown, hne⟩ := h1
  have c0 : w1.cell? ⟨b, 0, none⟩ = some (.pointer (some ⟨b, 0, none⟩)) := by rw [Lib.cell_of_heap hbk]; rfl
  have c1 : w1.cell? ⟨b, 1, none⟩ = some v := by rw [Lib.cell_of_heap hbk]; rfl
  go_wp2_with (at_builtin; refine Lib.wpList_append_own_string _ rfl _ _ 144 9 rfl B 5 i0 Tryz.underlying144 Tryz.underlying9 hi hz0 hz1 hz2 _ _ _ rfl hown s rfl ?c3 ?c4 ?c5 ?_)
  case c3 => unfold maxLen; omega
  case c4 => omega
  case c5 => have := hb1.size; omega
  intro v' w2 hown' hgrow _
  have hlt : b < w1.heap.size := by
    rcases Nat.lt_or_ge b w1.heap.size with h' | h'
    · exact h'
    · simp [Array.getElem?_eq_none h'] at hbk
  have hb2 : w2.heap[b]? = some (.cells #[.pointer (some ⟨b, 0, none⟩), v] 148 (0, 0)) := by
    rw [hgrow.block b hlt (fun e => hne e.symm)]
    exact hbk
  have d0 : w2.cell? ⟨b, 0, none⟩ = some (.pointer (some ⟨b, 0, none⟩)) := by rw [Lib.cell_of_heap hb2]; rfl
  have d1 : w2.cell? ⟨b, 1, none⟩ = some v := by rw [Lib.cell_of_heap hb2]; rfl
  have f1 : w2.frozen? ⟨b, 1, none⟩ = false := Lib.frozen_of_heap hb2 1
  obtain ⟨ao, n', cap, rfl⟩ : ∃ ao n' cap, v' = .slice ao n' cap := by
    rcases hown'.2 with ⟨hv, _⟩ | ⟨g, cap, cur, hv, _⟩
    · exact ⟨_, _, _, hv⟩
    · exact ⟨_, _, _, hv⟩
  go_wp2
  go_ret2
  refine ⟨rfl, ?_, ?_, ?_⟩
  · exact Lib.BuilderAt.put (T := 148) (e := 5) hB hb2 (bs' := bs ++ Lib.strCells s) (by simpa [Lib.strCells_length] using hown') (by decide)
  · exact (hb1.grown hgrow (by have := hb1.size; omega) (fun k hk => (hown.lt k hk).1)).setCell (p := ⟨b, 1, none⟩) hB _
  · exact (ho1.grown hgrow (Lib.ownsRow_kind hown)).setCell ⟨b, 1, none⟩ rfl _
end Go.Proofs.YtkihodadopcioaaGreatDoor
namespace Go.Proofs.YtkihodadopcioaaGreatDoor
open Go.RowKit Go.Shelf

attribute [local go_sem] Oper.semAt_some

namespace Dec
theorem digits_zeros (k : Nat) : Digits (List.replicate k 48) := by
  intro b hb
  rw [List.mem_replicate] at hb
  rw [hb.2]; decide
theorem dval_zeros (k : Nat) : dval (List.replicate k 48) = 0 := by
  induction k with
  | zero => rfl
  | succ k ih => rw [List.replicate_succ, dval_cons, ih]; simp
theorem decDigits_group {h d : Nat} (hh : h ≠ 0) (hd : d < 10000) : Lib.decDigits (d + 10000 * h) = Lib.decDigits h ++ (List.replicate (4 - (Lib.decDigits d).length) 48 ++ Lib.decDigits d) := by
  have h4 : (Lib.decDigits d).length ≤ 4 := (decDigits_length d 4 (by omega)).2 hd
  have hne := decDigits_ne h
  have hD : Digits (Lib.decDigits h ++ (List.replicate (4 - (Lib.decDigits d).length) 48 ++ Lib.decDigits d)) := by
    intro b hb
    rw [List.mem_append, List.mem_append] at hb
    rcases hb with hb | hb | hb
    · exact decDigits_digits h b hb
    · exact digits_zeros _ b hb
    · exact decDigits_digits d b hb
  have hv : dval (Lib.decDigits h ++ (List.replicate (4 - (Lib.decDigits d).length) 48 ++ Lib.decDigits d)) = d + 10000 * h := by
    rw [dval_append, dval_append, dval_zeros, dval_decDigits, dval_decDigits, List.length_append, List.length_replicate, show 4 - (Lib.decDigits d).length + (Lib.decDigits d).length = 4 by omega, show (10 ^ 4 : Nat) = 10000 from rfl]
    omega
  rw [← hv]
  refine decDigits_dval hD (by simp [hne]) (.inr ?_)
  rw [List.head?_append]
  cases hc : Lib.decDigits h with
  | nil => exact absurd hc hne
  | cons b l =>
    have := (decDigits_head h).1
    rw [hc] at this
    intro e
    exact hh (this (by simpa using e))
theorem repeat_zeros (k : Nat) : Lib.repeatL [48] k = List.replicate k 48 := by
  induction k with
  | zero => rfl
  | succ k ih => rw [Lib.repeatL, ih, List.replicate_succ]; rfl
end Dec

/-- The table of powers of ten that Itoa reads. -/
def Tab (w : World) : Prop := Lib.TabIs Tryz.prog w "internal/strconv.uint64pow10" .u64 Lib.pow10Tab
theorem Tab.later {w w' : World} (h : Tab w) (hb : Below w.heap.size w w') : Tab w' := by
  unfold Tab Lib.TabIs at h ⊢
  exact Joins.var_stays (g := 3) (by kernel_rfl) h hb (Nat.le_refl _)

theorem itoa_any (z : Int) (w : World) (h0 : -9223372036854775808 ≤ z) (h1 : z ≤ 9223372036854775807) (ht : Tab w) :
    Calls Tryz.prog 88 #[.int .i64 z] w fun e w' => e = .returned (txt (Lib.itoa z)) ∧ Below w.heap.size w w' := by
  refine (Tryz.strconv_Itoa z h0 h1 w ht).mono ?_
  rintro e w' ⟨rfl, k, os, rfl⟩
  exact ⟨rfl, Lib.below_grow _ _ (Nat.le_refl _) _ _⟩
theorem repeat_any (k : Nat) (w : World) (hk : k ≤ 1000) :
    Calls Tryz.prog 122 #[.string { data := #[48] }, .int .i64 (k : Int)] w fun e w' => e = .returned (txt (List.replicate k 48)) ∧ Below w.heap.size w w' := by
  refine (Tryz.strings_Repeat ⟨#[48]⟩ k w (by omega) (by show 1 * k ≤ _; omega)).mono ?_
  rintro e w' ⟨rfl, hb⟩
  exact ⟨by rw [← Dec.repeat_zeros], hb⟩

/-- What stands in the builder when the groups from k on are written. -/
def upto (n k : Nat) : List UInt8 := if k < Num.gl n then Lib.decDigits (Num.hi n k) else []
theorem hi_ne {n k : Nat} (h : k < Num.gl n) : Num.hi n k ≠ 0 := by
  intro e
  unfold Num.hi at e
  have hl : ((Num.grp n).drop k) ≠ [] := by rw [← List.length_pos_iff, List.length_drop]; unfold Num.gl at h; omega
  have hd : Num.Dig ((Num.grp n).drop k) := fun x hx => Num.grp_dig n x (List.mem_of_mem_drop hx)
  have := Num.grp_val hd (fun d hd' => Num.grp_last (n := n) (by rw [List.getLast?_drop] at hd'; rw [if_neg (by unfold Num.gl at h; omega)] at hd'; exact hd'))
  rw [e, Num.grp_zero] at this
  exact hl this.symm
theorem upto_top {n k d : Nat} (hd : (Num.grp n)[k]? = some d) (hk : ¬ k < Num.gl n - 1) : upto n k = upto n (k + 1) ++ Lib.decDigits d := by
  have hlt : k < Num.gl n := (List.getElem?_eq_some_iff.1 hd).1
  unfold upto
  rw [if_pos hlt, if_neg (by omega), Num.hi_succ hd]
  have : Num.hi n (k + 1) = 0 := by
    have h1 := Num.hi_end n
    have e : k + 1 = (Num.grp n).length := by unfold Num.gl at *; omega
    rw [e]; exact h1
  rw [this]; simp
theorem upto_low {n k d : Nat} (hd : (Num.grp n)[k]? = some d) (hk : k < Num.gl n - 1) : upto n k = upto n (k + 1) ++ (List.replicate (4 - (Lib.decDigits d).length) 48 ++ Lib.decDigits d) := by
  have hlt : k < Num.gl n := (List.getElem?_eq_some_iff.1 hd).1
  unfold upto
  rw [if_pos hlt, if_pos (by omega), Num.hi_succ hd]
  exact Dec.decDigits_group (hi_ne (by omega)) (Num.grp_get_lt hd)

theorem Turns.boxed2 {B b : Nat} {t : TypeId} {u v : Value} : Turns B (fun W => Boxed2 W b t u v) := fun W W' row h hg hr => by
  refine (hg.block b h.lt (fun e => ?_)).trans h
  obtain ⟨_, o, ho, hc⟩ := hr b e.symm
  rw [show _ = _ from h] at ho; cases ho; cases hc
theorem Turns.builder {B b C : Nat} {T e : TypeId} {bs : List Value} : Turns B (fun W => Lib.IsBuilder T e C b bs W) := by
  have key : ∀ p W W' row, Lib.BuilderAt T e C b p bs W → W.grownBy W' row → (∀ r, row = some r → B ≤ r ∧ ∃ o : Obj, W.heap[r]? = some o ∧ o.isCells = false) → Lib.BuilderAt T e C b p bs W' := by
    rintro p W W' row h hg hr
    have hlt := h.lt
    obtain ⟨hB, v, hb, hown, hne⟩ := h
    refine ⟨hB, v, (hg.block b hlt (fun e => ?_)).trans hb, hown.kept hg ?_, hne⟩
    · obtain ⟨_, o, ho, hc⟩ := hr b e.symm
      rw [hb] at ho; cases ho; cases hc
    · cases hr0 : v.ownBlock with
      | none => exact .inl rfl
      | some g =>
        refine .inr (fun e' => ?_)
        obtain ⟨c, fz, hc⟩ := Lib.ownsRow_kind hown g hr0
        obtain ⟨_, o, ho, hoc⟩ := hr g e'.symm
        rw [hc] at ho; cases ho; cases hoc
  rintro W W' row (h | h) hg hr
  · exact .inl (key _ _ _ _ h hg hr)
  · exact .inr (key _ _ _ _ h hg hr)

/-- The loop's word. -/
def TexI (w : World) (g : Bool) (v : Value) (n k : Nat) (W : World) : Prop :=
  (Boxed2 W w.heap.size 94 (.bool g) v ∧ Lib.IsBuilder 148 5 (w.heap.size + 1) (w.heap.size + 1) (Lib.byteCells (upto n k)) W) ∧ Boxed W (w.heap.size + 1 + 1) 92 v ∧ Below w.heap.size w W
theorem TexI.turns {w : World} {g : Bool} {v : Value} {n k B : Nat} (hB : w.heap.size ≤ B) : Turns B (TexI w g v n k) :=
  Turns.and (Turns.and Turns.boxed2 Turns.builder) (Turns.and Turns.boxed (Turns.below (Nat.le_refl _) hB))

theorem isBuilder_cells {T e : TypeId} {B b : Nat} {bs : List Value} {W : World} (h : Lib.IsBuilder T e B b bs W) : ∃ p v, W.heap[b]? = some (.cells #[p, v] T (0, 0)) := by
  rcases h with h | h
  · obtain ⟨_, v, hb, _⟩ := h
    exact ⟨_, v, hb⟩
  · obtain ⟨_, v, hb, _⟩ := h
    exact ⟨_, v, hb⟩
theorem builder_later {T e : TypeId} {B b : Nat} {bs : List Value} {W W' : World} (h : Lib.IsBuilder T e B b bs W) (hb : Below W.heap.size W W') : Lib.IsBuilder T e B b bs W' := by
  have key : ∀ p, Lib.BuilderAt T e B b p bs W → Lib.BuilderAt T e B b p bs W' := fun p h => by
    have hlt := h.lt
    obtain ⟨hB, v, hbk, hown, hne⟩ := h
    exact ⟨hB, v, (hb.block b hlt).trans hbk, own_later hown hb, hne⟩
  exact h.imp (key _) (key _)

theorem tex_next {w A W2 W3 : World} {g : Bool} {v p : Value} {n k : Nat} {s : List UInt8} {B : Nat} (hA : Below w.heap.size w A) (st : Below A.heap.size A W2)
    (cX : Boxed2 A w.heap.size 94 (.bool g) v) (cB : Lib.IsBuilder 148 5 (w.heap.size + 1) (w.heap.size + 1) (Lib.byteCells (upto n (k + 1))) A)
    (cN : Boxed A (w.heap.size + 1 + 1) 92 v)
    (hbl : Lib.BuilderAt 148 5 (w.heap.size + 1) (w.heap.size + 1) p (Lib.byteCells (upto n (k + 1)) ++ Lib.strCells ⟨s.toArray⟩) W3) (hp : p = .pointer (some ⟨w.heap.size + 1, 0, none⟩))
    (hb3 : Below (w.heap.size + 1) W2 W3) (ho : Lib.OthersKept 5 (some (w.heap.size + 1)) W2 W3) (hs : upto n k = upto n (k + 1) ++ s) :
    KeepsFrom B A W3 ∧ KpB w.heap.size (w.heap.size + 1 + 1) A W3 ∧ TexI w g v n k W3 := by
  subst hp
  have hsz := cN.lt
  have e : Lib.byteCells (upto n k) = Lib.byteCells (upto n (k + 1)) ++ Lib.strCells ⟨s.toArray⟩ := by
    rw [hs]; simp [Lib.byteCells, Lib.strCells]
  have hb13 : Below w.heap.size A W3 := (st.mono hA.size).trans (hb3.mono (by omega))
  have hN3 : Boxed W3 (w.heap.size + 1 + 1) 92 v := ho _ _ ((st.block (w.heap.size + 1 + 1) hsz).trans cN) (by simp) (fun c fz e => by cases e)
  refine ⟨⟨Nat.le_trans st.size hb3.size, fun j o _ hj hoc => ?_⟩, ⟨hb13, ?_⟩, ⟨⟨?_, .inr ?_⟩, hN3, hA.trans hb13⟩⟩
  · have hjb : j ≠ w.heap.size + 1 := by
      rintro rfl
      obtain ⟨p', v', hb⟩ := isBuilder_cells cB
      rw [hb] at hj; cases hj; cases hoc
    exact ho j o ((st.block j (Array.getElem?_eq_some_iff.1 hj).1).trans hj) (by intro e; cases e; exact hjb rfl) (fun c fz e => by subst e; cases hoc)
  · exact hN3.cell.trans cN.cell.symm
  · exact (hb3.block w.heap.size (by omega)).trans (Boxed2.below cX st)
  · rw [e]; exact hbl

/-- What 'text' returns, at an integer's sign and digits. -/
def tres (g : Bool) (s : List UInt8) : Value := if s.length ≤ 200 then .tuple #[txt ((if g then [45] else []) ++ s), .int .i64 0] else .tuple #[txt [], .int .i64 30]
theorem tres_plus {s : List UInt8} (h : s.length ≤ 200) : tres false s = .tuple #[txt s, .int .i64 0] := if_pos h
theorem tres_minus {s : List UInt8} (h : s.length ≤ 200) : tres true s = .tuple #[txt (45 :: s), .int .i64 0] := if_pos h
theorem tres_long {s : List UInt8} {g : Bool} (h : ¬ s.length ≤ 200) : tres g s = .tuple #[txt [], .int .i64 30] := if_neg h

set_option maxRecDepth 100000 in
set_option maxHeartbeats 2000000 in
theorem text_walk (w : World) (g : Bool) (a1 : Option Addr) (l1 c1 n : Nat) (hl : Hid (Num.gl n = l1)) (hA : l1 ≤ 1000000) (hpos : 0 < l1) (ht : Tab w) (h1 : Row w.heap.size w a1 (Num.grp n)) :
    Calls Tryz.prog 70 #[.agg #[.bool g, .slice a1 l1 c1]] w fun e w' => e = .returned (tres g (Lib.decDigits n)) ∧ Below w.heap.size w w' := by
  have H1 := Lib.hid h1
  have HT := Lib.hid ht
  clear h1 ht
  refine (callsIn_wide (n := 5)).1 ?_
  refine callsIn_of_wp_marks Tryz.func70 rfl trivial ?_ rfl
  simp only [Tryz.ntmps70, List.size_toArray, List.length_cons, List.length_nil, Nat.reduceAdd, Nat.reduceSub, Array.replicate_succ, Array.replicate_zero, List.push_toArray, List.append_toArray, List.nil_append, List.cons_append]
  gi_wp2_with (refine ⟨trivial, ?_⟩; gi_at_call 121; refine (callsIn_wide.2 (backward_any _ _ _ _)).mono ?_; rintro e w' ⟨rfl, rfl⟩)
  have bX := Boxed2.new w 94 (.bool g) (.slice a1 l1 c1)
  have bB := Lib.fresh_isBuilder 148 5 (w.alloc (.cells #[.bool g, .slice a1 l1 c1] 94))
  have bN := Boxed.new ((w.alloc (.cells #[.bool g, .slice a1 l1 c1] 94)).alloc (.cells #[.pointer none, .slice none 0 0] 148)) 92 (.slice a1 l1 c1)
  rw [World.size_alloc] at bB
  rw [World.size_alloc, World.size_alloc] at bN
  have hB0 : Below w.heap.size w (((w.alloc (.cells #[.bool g, .slice a1 l1 c1] 94)).alloc (.cells #[.pointer none, .slice none 0 0] 148)).alloc (.cells #[.slice a1 l1 c1] 92)) := (((Below.refl _ w).alloc (Nat.le_refl _) _).alloc (by simp) _).alloc (by simp; omega) _
  have hlz : (Num.grp n).length = l1 := hl.out
  refine wpIn_back 5 (by omega) (w.heap.size + 1 + 1) w.heap.size a1 c1 (Num.grp n) (by omega) rfl rfl (by rw [hlz]; exact bN.cell) hB0.size (H1.out.below hB0)
    (TexI w g (.slice a1 l1 c1) n) (fun _ => False) (fun k => TexI.turns hB0.size) Turns.const
    ⟨⟨(bX.alloc _).alloc _, by rw [show upto n (Num.grp n).length = [] from if_neg (Nat.lt_irrefl _)]; exact builder_later bB ((Below.refl _ _).alloc (Nat.le_refl _) _)⟩, bN, hB0⟩
    (fun k d => { tmps := #[.agg #[.bool g, .slice a1 l1 c1], .pointer (some ⟨w.heap.size, 0, none⟩), .string ⟨#[]⟩, .int .i64 0, .pointer (some ⟨w.heap.size + 1, 0, none⟩), .int .i64 (k : Int), dv d, undef, undef, .pointer (some ⟨w.heap.size, 1, none⟩), .slice a1 l1 c1, .int .i64 (l1 : Int), .bool false, .pointer (some ⟨w.heap.size, 1, none⟩), .slice a1 l1 c1,
          .func (.func 156) #[] #[.pointer (some ⟨w.heap.size + 1 + 1, 0, none⟩)], .int .i64 (k : Int), dv d, undef, undef, undef, undef, undef, undef, undef, undef, undef, undef, undef, undef, undef, undef, undef, undef, undef, undef, undef, undef, undef, undef, undef, undef, undef], defers := [] }) ?assign ?body ?done ?stop
  case assign =>
    intro l k d W K hK
    gi_wp2
    exact hK
  case body =>
    rintro l k d W hd ⟨⟨cX, cB⟩, cN, hBw⟩ hBs
    have hsz := cN.lt
    clear hBs bX bB bN hB0
    have hkl : k < l1 := by have := (List.getElem?_eq_some_iff.1 hd).1; omega
    have HD : d < 10000 := Num.grp_get_lt hd
    have h4 : (Lib.decDigits d).length ≤ 4 := (Dec.decDigits_length d 4 (by omega)).2 HD
    have hup : (upto n (k + 1)).length ≤ 4 * l1 := by
      unfold upto
      split
      · refine (Dec.decDigits_length _ _ (by omega)).2 ?_
        have h1 := Num.hi_le n (k + 1)
        have h2 := Num.lt_pow_gl n
        rw [hl.out] at h2
        have h3 : (10000 : Nat) ^ l1 = 10 ^ (4 * l1) := by rw [Nat.pow_mul]
        rw [← h3]
        omega
      · simp
    have HI := fun W' (hW : Tab W') => Lib.hid (itoa_any (d : Int) W' (by omega) (by omega) hW)
    rw [show Lib.itoa (d : Int) = Lib.decDigits d by rw [Dec.itoa_nonneg (by omega)]; rfl] at HI
    have HTW := HT.out.later hBw
    have htop := fun h => Lib.hid (upto_top hd h)
    have hlow := fun h => Lib.hid (upto_low hd h)
    have hgl := hl.out
    rw [hgl] at htop hlow
    have hpos4 := List.length_pos_iff.2 (Dec.decDigits_ne d)
    clear hd hgl HT
    generalize Lib.decDigits d = s at *
    have cx1 := cX.cell1
    by_cases hk : k < l1 - 1
    · have hrep : (4 : Int) - (s.length : Int) = ((4 - s.length : Nat) : Int) := by omega
      gi_wp2_with (first
        | (refine ⟨trivial, ?_⟩; gi_at_call 88; refine (CallsIn.inRound l (callsIn_wide.2 (HI _ HTW).out)).mono ?_; rintro e W1 ⟨rfl, hb1⟩; have cx2 := (cX.below hb1).cell1)
        | (refine ⟨trivial, ?_⟩; gi_at_call 122; refine (CallsIn.inRound l (callsIn_wide.2 (repeat_any (4 - s.length) _ (by omega)))).mono ?_; rintro e W2 ⟨rfl, hb2⟩))
      have st := hb1.trans (hb2.mono hb1.size)
      have hws := writeString_any (w.heap.size + 1) (w.heap.size + 1) (Lib.byteCells (upto n (k + 1))) ⟨(List.replicate (4 - s.length) 48 ++ s).toArray⟩ W2 (builder_later cB st) (by rw [Lib.byteCells_length, Lib.size_eq]; simp; omega) (by have := st.size; omega)
      rw [show ((⟨Array.replicate (4 - s.length) 48⟩ : ByteArray) ++ ⟨s.toArray⟩) = ⟨(List.replicate (4 - s.length) 48 ++ s).toArray⟩ by apply ByteArray.ext; simp]
      refine ⟨trivial, (CallsIn.inRound l (callsIn_wide.2 hws)).mono ?_⟩
      rintro e W3 ⟨rfl, hbl, hb3, ho3⟩
      gi_wp2
      exact tex_next hBw st cX cB cN hbl rfl hb3 ho3 (hlow hk).out
    · gi_wp2_with (first
        | (refine ⟨trivial, ?_⟩; gi_at_call 88; refine (CallsIn.inRound l (callsIn_wide.2 (HI _ HTW).out)).mono ?_; rintro e W1 ⟨rfl, hb1⟩; have cx2 := (cX.below hb1).cell1))
      have hws := writeString_any (w.heap.size + 1) (w.heap.size + 1) (Lib.byteCells (upto n (k + 1))) ⟨s.toArray⟩ W1 (builder_later cB hb1) (by rw [Lib.byteCells_length, Lib.size_eq]; simp; omega) (by have := hb1.size; omega)
      refine ⟨trivial, (CallsIn.inRound l (callsIn_wide.2 hws)).mono ?_⟩
      rintro e W3 ⟨rfl, hbl, hb3, ho3⟩
      gi_wp2
      exact tex_next hBw hb1 cX cB cN hbl rfl hb3 ho3 (htop hk).out
  case done =>
    rintro D W hD ⟨⟨cX, cB⟩, cN, hBw⟩ hK
    have hup : upto n 0 = Lib.decDigits n := by
      unfold upto
      rw [if_pos (by rw [hl.out]; exact hpos), Num.hi_zero]
    rw [hup] at cB
    have hsz := cN.lt
    have hcS := Tryz.Builder_String_any_k (w.heap.size + 1) (w.heap.size + 1) (Lib.decDigits n) W (Lib.IsBuilderF.of cB) (by omega)
    have hne : D ≠ w.heap.size + 1 := by
      rintro rfl
      obtain ⟨p', v', hb⟩ := isBuilder_cells cB
      rw [hb] at hK; cases hK
    clear bX bB bN hB0 hup cB
    have cx0 := cX.cell0
    generalize hs : Lib.decDigits n = s at hcS
    have HS := Lib.hid hs
    clear hs
    have fin : ∀ W2, Below (w.heap.size + 1) W W2 → Lib.OthersKept 5 (some (w.heap.size + 1)) W W2 → W2.heap[D]? = some (.deferred (some [])) ∧ W2.cell? ⟨w.heap.size, 0, none⟩ = some (.bool g) ∧ Below w.heap.size w (W2.putObj D (.deferred none)) := fun W2 hb ho => by
      have hD2 := ho D _ hK (by intro e; cases e; exact hne rfl) (fun c fz e => by cases e)
      exact ⟨hD2, (hb.cell (p := ⟨w.heap.size, 0, none⟩) (by simp)).trans cx0, (hBw.trans (hb.mono (by omega))).trans (belowK_b (w := w) (Nat.le_refl _) _ D _ _ (by simp at hD; omega) hD2 rfl rfl)⟩
    by_cases hlen : s.length ≤ 200
    · cases g with
      | true =>
        gi_wp2_with (refine ⟨trivial, ?_⟩; gi_at_call 124; refine (callsIn_wide.2 hcS).mono ?_; rintro e W2 ⟨rfl, -, hb2, ho2⟩; obtain ⟨hD2, cx2, hB2⟩ := fin W2 hb2 ho2; clear ho2)
        refine ⟨by simp, .inl ⟨_, _, rfl, run_takeDeferred hD2, ?_⟩⟩
        refine ⟨.tuple #[txt (45 :: s), .int .i64 0], ?_, by rw [HS.out, tres_minus hlen], hB2⟩
        simp [results, Tryz.f70, go_sem]
        apply ByteArray.ext
        simp
      | false =>
        gi_wp2_with (refine ⟨trivial, ?_⟩; gi_at_call 124; refine (callsIn_wide.2 hcS).mono ?_; rintro e W2 ⟨rfl, -, hb2, ho2⟩; obtain ⟨hD2, cx2, hB2⟩ := fin W2 hb2 ho2; clear ho2)
        refine ⟨by simp, .inl ⟨_, _, rfl, run_takeDeferred hD2, ?_⟩⟩
        refine ⟨.tuple #[txt s, .int .i64 0], ?_, by rw [HS.out, tres_plus hlen], hB2⟩
        simp [results, Tryz.f70, go_sem]
    · gi_wp2_with (refine ⟨trivial, ?_⟩; gi_at_call 124; refine (callsIn_wide.2 hcS).mono ?_; rintro e W2 ⟨rfl, -, hb2, ho2⟩; obtain ⟨hD2, cx2, hB2⟩ := fin W2 hb2 ho2; clear ho2)
      refine ⟨by simp, .inl ⟨_, _, rfl, run_takeDeferred hD2, ?_⟩⟩
      refine ⟨.tuple #[txt [], .int .i64 30], ?_, by rw [HS.out, tres_long hlen], hB2⟩
      simp [results, Tryz.f70, go_sem]
  case stop =>
    rintro D W hD h
    exact h.elim

set_option maxRecDepth 100000 in
set_option maxHeartbeats 1000000 in
theorem text_zero (w : World) (g : Bool) (a1 : Option Addr) (c1 : Nat) :
    Calls Tryz.prog 70 #[.agg #[.bool g, .slice a1 0 c1]] w fun e w' => e = .returned (.tuple #[txt [48], .int .i64 0]) ∧ Below w.heap.size w w' := by
  go_enter Tryz.func70, Tryz.ntmps70
  go_wp2
  refine bodyPost_ret (v := .tuple #[txt [48], .int .i64 0]) ?_ rfl ⟨rfl, (Below.refl _ w).alloc (Nat.le_refl _) _⟩
  simp [results, Tryz.results70, go_sem]

/-- What a function of the package returns for an integer: its text, or an error if it has too many digits. -/
def ires (z : Int) : Value := if z.natAbs < 10 ^ 200 then .tuple #[txt (Lib.itoa z), .int .i64 0] else .tuple #[txt [], .int .i64 30]
theorem ires_yes {z : Int} (h : z.natAbs < 10 ^ 200) : ires z = .tuple #[txt (Lib.itoa z), .int .i64 0] := if_pos h
theorem ires_no {z : Int} (h : ¬ z.natAbs < 10 ^ 200) : ires z = .tuple #[txt [], .int .i64 30] := if_neg h
theorem sig_zero (g : Bool) : sig g 0 = 0 := by cases g <;> rfl
theorem sig_abs (g : Bool) (n : Nat) : (sig g n).natAbs = n := by cases g <;> simp [sig]
theorem tres_sig {g : Bool} {n : Nat} (hn : n ≠ 0) : tres g (Lib.decDigits n) = ires (sig g n) := by
  by_cases h : n < 10 ^ 200
  · have hl := (Dec.decDigits_length n 200 (by decide)).2 h
    rw [ires_yes (by rw [sig_abs]; exact h)]
    cases g with
    | true =>
      rw [tres_minus hl, Dec.itoa_neg (by show -(n : Int) < 0; omega), sig_abs]
    | false =>
      rw [tres_plus hl, Dec.itoa_nonneg (by show (0 : Int) ≤ (n : Int); omega), sig_abs]
  · have hl : ¬ (Lib.decDigits n).length ≤ 200 := fun e => h ((Dec.decDigits_length n 200 (by decide)).1 e)
    rw [tres_long hl, ires_no (by rw [sig_abs]; exact h)]

/-- 'text'. -/
theorem text_any (w : World) (x : Value) (g : Bool) (n : Nat) (hA : Num.gl n ≤ 1000000) (ht : Tab w) (h1 : IsSig w.heap.size w x g n) :
    Calls Tryz.prog 70 #[x] w fun e w' => e = .returned (ires (sig g n)) ∧ Below w.heap.size w w' := by
  obtain ⟨v, rfl, a, cap, rfl, hc, hr⟩ := h1
  by_cases hn : n = 0
  · subst hn
    rw [sig_zero, Num.gl_zero, ires_yes (by decide), show Lib.itoa 0 = [48] by decide +kernel]
    exact text_zero w g a cap
  · rw [← tres_sig hn]
    exact text_walk w g a _ cap n (Lib.hid rfl) hA (Num.gl_pos.2 hn) ht hr
end Go.Proofs.YtkihodadopcioaaGreatDoor
namespace Go.Proofs.YtkihodadopcioaaGreatDoor
open Go.RowKit Go.Shelf

/-- Two structs boxed by the caller of 'both'. -/
def bpair (w : World) (g1 g2 : Bool) (v1 v2 : Value) : World := (w.alloc (.cells #[.bool g1, v1] 94)).alloc (.cells #[.bool g2, v2] 94)
structure BPair (w W : World) (g1 g2 : Bool) (v1 v2 : Value) : Prop where
  fst : Boxed2 W w.heap.size 94 (.bool g1) v1
  snd : Boxed2 W (w.heap.size + 1) 94 (.bool g2) v2
  below : Below w.heap.size w W
theorem bpair_is (w : World) (g1 g2 : Bool) (v1 v2 : Value) : BPair w (bpair w g1 g2 v1 v2) g1 g2 v1 v2 := by
  have b1 := (Boxed2.new w 94 (.bool g1) v1).alloc (.cells #[.bool g2, v2] 94)
  have b2 := Boxed2.new (w.alloc (.cells #[.bool g1, v1] 94)) 94 (.bool g2) v2
  simp only [World.size_alloc] at b2
  exact ⟨b1, b2, ((Below.refl _ w).alloc (Nat.le_refl _) _).alloc (by simp) _⟩

theorem natAbs_sig {x : Int} : sig (decide (x < 0)) x.natAbs = x := by
  unfold sig
  by_cases h : x < 0
  · simp only [h, decide_true, if_true]; omega
  · simp only [h, decide_false]; show (x.natAbs : Int) = x; omega
theorem natAbs_sig_not {x : Int} : sig (!(decide (x < 0))) x.natAbs = -x := by
  unfold sig
  by_cases h : x < 0
  · simp only [h, decide_true]; show (x.natAbs : Int) = -x; omega
  · simp only [h, decide_false]; show -(x.natAbs : Int) = -x; omega
theorem gl_200 {n : Nat} (h : n < 10 ^ 200) : Num.gl n ≤ 50 := Num.gl_le.2 (by rw [show (10000 : Nat) ^ 50 = 10 ^ 200 by decide +kernel]; exact h)

theorem ires_form (z : Int) : ∃ l k, ires z = .tuple #[txt l, .int .i64 k] := by
  unfold ires
  split
  · exact ⟨_, _, rfl⟩
  · exact ⟨_, _, rfl⟩
theorem gl_sum {a b N : Nat} (ha : Num.gl a ≤ 50) (hb : Num.gl b ≤ 50) (hN : N ≤ a + b) : Num.gl N ≤ 1000000 := by
  have h1 := Num.gl_mono hN
  have h2 := Num.gl_add a b
  omega

set_option maxRecDepth 100000 in
set_option maxHeartbeats 2000000 in
theorem add_any (x y : Int) (w : World) (hx : x.natAbs < 10 ^ 200) (hy : y.natAbs < 10 ^ 200) (ht : Tab w) :
    Calls Tryz.prog 16 #[txt (Lib.itoa x), txt (Lib.itoa y)] w fun e w' => e = .returned (ires (x + y)) ∧ Below w.heap.size w w' := by
  have HB := both_yes x y w hx hy
  have HT := Lib.hid ht
  clear ht
  have gx := gl_200 hx
  have gy := gl_200 hy
  go_enter Tryz.func16, Tryz.ntmps16
  go_wp2_with fail
  refine HB.mono ?_
  rintro e w1 ⟨⟨u, v, rfl, ⟨uv, rfl, hu⟩, ⟨vv, rfl, hv⟩⟩, hb1⟩
  have hP := bpair_is w1 (decide (x < 0)) (decide (y < 0)) uv vv
  have hun := hu.later hP.below
  have hvn := hv.later hP.below
  have GS := Lib.hid (splus_any _ (.agg #[.bool (decide (x < 0)), uv]) (.agg #[.bool (decide (y < 0)), vv]) (decide (x < 0)) (decide (y < 0)) x.natAbs y.natAbs (by omega) (by omega) ⟨uv, rfl, hun⟩ ⟨vv, rfl, hvn⟩)
  rw [natAbs_sig, natAbs_sig] at GS
  have hT1 := Lib.hid (HT.out.later (hb1.trans (hP.below.mono hb1.size)))
  have hB1 := Lib.hid (hb1.trans (hP.below.mono hb1.size))
  clear hun hvn
  obtain ⟨ua, uc, rfl, -, -⟩ := hu
  obtain ⟨va, vc, rfl, -, -⟩ := hv
  unfold bpair at GS hT1 hB1 hP
  clear hP HB
  go_wp2_with fail
  refine GS.out.mono ?_
  rintro e w2 ⟨⟨g, N, v, rfl, hv, hsum, hN⟩, hb2⟩
  have GT := Lib.hid (text_any w2 v g N (gl_sum gx gy hN) (hT1.out.later hb2) hv)
  rw [hsum] at GT
  obtain ⟨rl, rk, hr⟩ := ires_form (x + y)
  rw [hr] at GT
  have HR := Lib.hid hr
  clear hr
  go_wp2_with fail
  refine GT.out.mono ?_
  rintro e w3 ⟨rfl, hb3⟩
  have hB := (hB1.out.trans (hb2.mono hB1.out.size)).trans (hb3.mono (Nat.le_trans hB1.out.size hb2.size))
  go_wp2
  refine bodyPost_ret (v := .tuple #[txt rl, .int .i64 rk]) ?_ rfl ⟨by rw [HR.out], hB⟩
  simp [results, Tryz.results16, go_sem]

set_option maxRecDepth 100000 in
set_option maxHeartbeats 2000000 in
theorem sub_any (x y : Int) (w : World) (hx : x.natAbs < 10 ^ 200) (hy : y.natAbs < 10 ^ 200) (ht : Tab w) :
    Calls Tryz.prog 17 #[txt (Lib.itoa x), txt (Lib.itoa y)] w fun e w' => e = .returned (ires (x - y)) ∧ Below w.heap.size w w' := by
  have HB := both_yes x y w hx hy
  have HT := Lib.hid ht
  clear ht
  have gx := gl_200 hx
  have gy := gl_200 hy
  go_enter Tryz.func17, Tryz.ntmps17
  go_wp2_with fail
  refine HB.mono ?_
  rintro e w1 ⟨⟨u, v, rfl, ⟨uv, rfl, hu⟩, ⟨vv, rfl, hv⟩⟩, hb1⟩
  have hP := bpair_is w1 (decide (x < 0)) (!(decide (y < 0))) uv vv
  have hun := hu.later hP.below
  have hvn := hv.later hP.below
  have GS := Lib.hid (splus_any _ (.agg #[.bool (decide (x < 0)), uv]) (.agg #[.bool (!(decide (y < 0))), vv]) (decide (x < 0)) (!(decide (y < 0))) x.natAbs y.natAbs (by omega) (by omega) ⟨uv, rfl, hun⟩ ⟨vv, rfl, hvn⟩)
  rw [natAbs_sig, natAbs_sig_not, ← Int.sub_eq_add_neg] at GS
  have hT1 := Lib.hid (HT.out.later (hb1.trans (hP.below.mono hb1.size)))
  have hB1 := Lib.hid (hb1.trans (hP.below.mono hb1.size))
  clear hun hvn
  obtain ⟨ua, uc, rfl, -, -⟩ := hu
  obtain ⟨va, vc, rfl, -, -⟩ := hv
  unfold bpair at GS hT1 hB1 hP
  clear hP HB
  go_wp2_with fail
  refine GS.out.mono ?_
  rintro e w2 ⟨⟨g, N, v, rfl, hv, hsum, hN⟩, hb2⟩
  have GT := Lib.hid (text_any w2 v g N (gl_sum gx gy hN) (hT1.out.later hb2) hv)
  rw [hsum] at GT
  obtain ⟨rl, rk, hr⟩ := ires_form (x - y)
  rw [hr] at GT
  have HR := Lib.hid hr
  clear hr
  go_wp2_with fail
  refine GT.out.mono ?_
  rintro e w3 ⟨rfl, hb3⟩
  have hB := (hB1.out.trans (hb2.mono hB1.out.size)).trans (hb3.mono (Nat.le_trans hB1.out.size hb2.size))
  go_wp2
  refine bodyPost_ret (v := .tuple #[txt rl, .int .i64 rk]) ?_ rfl ⟨by rw [HR.out], hB⟩
  simp [results, Tryz.results17, go_sem]


set_option maxRecDepth 100000 in
set_option maxHeartbeats 2000000 in
theorem add_no (l m : List UInt8) (w : World) (hl : l.length ≤ 1000000) (hm : m.length ≤ 1000000) (hv : (Dec.vld l && Dec.vld m) = false) :
    Calls Tryz.prog 16 #[txt l, txt m] w fun e w' => e = .returned (.tuple #[txt [], .int .i64 30]) ∧ Below w.heap.size w w' := by
  have HB := both_no l m w hl hm hv
  go_enter Tryz.func16, Tryz.ntmps16
  go_wp2_with fail
  refine HB.mono ?_
  rintro e w1 ⟨rfl, hb1⟩
  have hP := bpair_is w1 false false (.slice none 0 0) (.slice none 0 0)
  have hB := hb1.trans (hP.below.mono hb1.size)
  unfold bpair at hB
  clear hP HB
  go_wp2
  refine bodyPost_ret (v := .tuple #[txt [], .int .i64 30]) ?_ rfl ⟨rfl, hB⟩
  simp [results, Tryz.results16, go_sem]

set_option maxRecDepth 100000 in
set_option maxHeartbeats 2000000 in
theorem sub_no (l m : List UInt8) (w : World) (hl : l.length ≤ 1000000) (hm : m.length ≤ 1000000) (hv : (Dec.vld l && Dec.vld m) = false) :
    Calls Tryz.prog 17 #[txt l, txt m] w fun e w' => e = .returned (.tuple #[txt [], .int .i64 30]) ∧ Below w.heap.size w w' := by
  have HB := both_no l m w hl hm hv
  go_enter Tryz.func17, Tryz.ntmps17
  go_wp2_with fail
  refine HB.mono ?_
  rintro e w1 ⟨rfl, hb1⟩
  have hP := bpair_is w1 false false (.slice none 0 0) (.slice none 0 0)
  have hB := hb1.trans (hP.below.mono hb1.size)
  unfold bpair at hB
  clear hP HB
  go_wp2
  refine bodyPost_ret (v := .tuple #[txt [], .int .i64 30]) ?_ rfl ⟨rfl, hB⟩
  simp [results, Tryz.results17, go_sem]

set_option maxRecDepth 100000 in
set_option maxHeartbeats 2000000 in
theorem mul_no (l m : List UInt8) (w : World) (hl : l.length ≤ 1000000) (hm : m.length ≤ 1000000) (hv : (Dec.vld l && Dec.vld m) = false) :
    Calls Tryz.prog 19 #[txt l, txt m] w fun e w' => e = .returned (.tuple #[txt [], .int .i64 30]) ∧ Below w.heap.size w w' := by
  have HB := both_no l m w hl hm hv
  go_enter Tryz.func19, Tryz.ntmps19
  go_wp2_with fail
  refine HB.mono ?_
  rintro e w1 ⟨rfl, hb1⟩
  have hP := bpair_is w1 false false (.slice none 0 0) (.slice none 0 0)
  have hB := hb1.trans (hP.below.mono hb1.size)
  unfold bpair at hB
  clear hP HB
  go_wp2
  refine bodyPost_ret (v := .tuple #[txt [], .int .i64 30]) ?_ rfl ⟨rfl, hB⟩
  simp [results, Tryz.results19, go_sem]

set_option maxRecDepth 100000 in
set_option maxHeartbeats 2000000 in
theorem gcd_no (l m : List UInt8) (w : World) (hl : l.length ≤ 1000000) (hm : m.length ≤ 1000000) (hv : (Dec.vld l && Dec.vld m) = false) :
    Calls Tryz.prog 28 #[txt l, txt m] w fun e w' => e = .returned (.tuple #[txt [], .int .i64 30]) ∧ Below w.heap.size w w' := by
  have HB := both_no l m w hl hm hv
  go_enter Tryz.func28, Tryz.ntmps28
  go_wp2_with fail
  refine HB.mono ?_
  rintro e w1 ⟨rfl, hb1⟩
  have hP := bpair_is w1 false false (.slice none 0 0) (.slice none 0 0)
  have hB := hb1.trans (hP.below.mono hb1.size)
  unfold bpair at hB
  clear hP HB
  go_wp2
  refine bodyPost_ret (v := .tuple #[txt [], .int .i64 30]) ?_ rfl ⟨rfl, hB⟩
  simp [results, Tryz.results28, go_sem]
end Go.Proofs.YtkihodadopcioaaGreatDoor
