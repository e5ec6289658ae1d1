/- Decimal numerals: plain mathematics over the library's own word for a numeral. -/
import Derived.Lib.ItoaNum
namespace Go.Proofs.YtkihodadopcioaaGreatDoor.Dec
open Go.Lib

def IsDigit (b : UInt8) : Prop := 48 ≤ b.toNat ∧ b.toNat ≤ 57
instance (b : UInt8) : Decidable (IsDigit b) := by unfold IsDigit; exact inferInstance
def Digits (l : List UInt8) : Prop := ∀ b ∈ l, IsDigit b

/-- What a row of digits stands for. -/
def dval (l : List UInt8) : Nat := l.foldl (fun a b => 10 * a + (b.toNat - 48)) 0

theorem dval_from (l : List UInt8) : ∀ a, l.foldl (fun a b => 10 * a + (b.toNat - 48)) a = a * 10 ^ l.length + dval l := by
  induction l with
  | nil => intro a; simp [dval]
  | cons b l ih =>
    intro a
    unfold dval
    simp only [List.foldl_cons, List.length_cons]
    rw [ih, ih (10 * 0 + (b.toNat - 48)), Nat.pow_succ]
    rw [Nat.add_mul, Nat.add_mul, Nat.mul_comm 10 a, Nat.mul_assoc a 10, Nat.mul_comm 10 (10 ^ l.length)]
    omega
theorem dval_nil : dval [] = 0 := rfl
theorem dval_cons (b : UInt8) (l : List UInt8) : dval (b :: l) = (b.toNat - 48) * 10 ^ l.length + dval l := by
  show l.foldl _ _ = _
  rw [dval_from]
  simp
theorem dval_append (l m : List UInt8) : dval (l ++ m) = dval l * 10 ^ m.length + dval m := by
  unfold dval
  rw [List.foldl_append, dval_from]
  rfl
theorem dval_snoc (l : List UInt8) (b : UInt8) : dval (l ++ [b]) = 10 * dval l + (b.toNat - 48) := by
  rw [dval_append]
  simp [dval]
  omega
theorem dval_lt {l : List UInt8} (h : Digits l) : dval l < 10 ^ l.length := by
  induction l with
  | nil => simp [dval]
  | cons b l ih =>
    rw [dval_cons, List.length_cons, Nat.pow_succ]
    have h1 := ih (fun x hx => h x (List.mem_cons_of_mem _ hx))
    have h2 := h b List.mem_cons_self
    unfold IsDigit at h2
    have h3 : (b.toNat - 48) * 10 ^ l.length ≤ 9 * 10 ^ l.length := Nat.mul_le_mul_right _ (by omega)
    omega

theorem digit_toNat {d : Nat} (h : d < 10) : (UInt8.ofNat (48 + d)).toNat = 48 + d := by
  simp [UInt8.toNat_ofNat']
  omega

theorem decDigits_small {u : Nat} (h : u < 10) : decDigits u = [UInt8.ofNat (48 + u)] := by rw [decDigits, dif_pos h]
theorem decDigits_big {u : Nat} (h : ¬ u < 10) : decDigits u = decDigits (u / 10) ++ [UInt8.ofNat (48 + u % 10)] := by rw [decDigits, dif_neg h]

theorem dval_decDigits (u : Nat) : dval (decDigits u) = u := by
  induction u using Nat.strongRecOn with
  | _ u ih =>
    by_cases h : u < 10
    · rw [decDigits_small h]
      show 10 * 0 + _ = _
      rw [digit_toNat h]; omega
    · rw [decDigits_big h, dval_snoc, ih _ (by omega), digit_toNat (by omega)]
      omega
theorem decDigits_digits (u : Nat) : Digits (decDigits u) := by
  induction u using Nat.strongRecOn with
  | _ u ih =>
    by_cases h : u < 10
    · rw [decDigits_small h]
      intro b hb
      simp only [List.mem_singleton] at hb
      subst hb
      unfold IsDigit
      rw [digit_toNat h]; omega
    · rw [decDigits_big h]
      intro b hb
      rcases List.mem_append.1 hb with hb | hb
      · exact ih _ (by omega) b hb
      · simp only [List.mem_singleton] at hb
        subst hb
        unfold IsDigit
        rw [digit_toNat (by omega)]; omega
theorem decDigits_ne (u : Nat) : decDigits u ≠ [] := by
  by_cases h : u < 10
  · rw [decDigits_small h]; simp
  · rw [decDigits_big h]; simp
/-- No zero ahead, but in 0 itself. -/
theorem decDigits_head (u : Nat) : (decDigits u).head? = some 48 ↔ u = 0 := by
  induction u using Nat.strongRecOn with
  | _ u ih =>
    by_cases h : u < 10
    · rw [decDigits_small h]
      simp only [List.head?_cons, Option.some.injEq]
      constructor
      · intro e
        have := congrArg UInt8.toNat e
        rw [digit_toNat h] at this
        simp at this
        exact this
      · rintro rfl; rfl
    · rw [decDigits_big h]
      have e : (decDigits (u / 10) ++ [UInt8.ofNat (48 + u % 10)]).head? = (decDigits (u / 10)).head? := by
        cases hd : decDigits (u / 10) with
        | nil => exact absurd hd (decDigits_ne _)
        | cons b l => rfl
      rw [e, ih _ (by omega)]
      omega

theorem byte_eq {b : UInt8} (h : IsDigit b) : UInt8.ofNat (48 + (b.toNat - 48)) = b := by
  unfold IsDigit at h
  rw [show 48 + (b.toNat - 48) = b.toNat by omega]
  simp

/-- A row of digits without a zero ahead is the numeral of what it stands for. -/
theorem decDigits_dval {l : List UInt8} (h : Digits l) (hne : l ≠ []) (h0 : l = [48] ∨ l.head? ≠ some 48) : decDigits (dval l) = l := by
  rcases h0 with rfl | h0
  · decide +kernel
  · -- by the length, the last digit first
    generalize hn : l.length = n
    induction n generalizing l with
    | zero => exact absurd (List.eq_nil_of_length_eq_zero hn) hne
    | succ n ih =>
      obtain ⟨m, b, rfl⟩ : ∃ m b, l = m ++ [b] := ⟨l.dropLast, l.getLast hne, (List.dropLast_concat_getLast hne).symm⟩
      have hb := h b (by simp)
      have hb' := hb
      unfold IsDigit at hb'
      rw [dval_snoc]
      by_cases hm : m = []
      · subst hm
        rw [dval_nil, decDigits_small (by omega)]
        simp [byte_eq hb]
      · have hm0 : m.head? ≠ some 48 := by
          intro e
          apply h0
          cases m with
          | nil => exact absurd rfl hm
          | cons c m => exact e
        have hd : Digits m := fun x hx => h x (List.mem_append_left _ hx)
        have e := ih hd hm hm0 (by simpa using hn)
        have hpos : dval m ≠ 0 := by
          intro hz
          rw [hz] at e
          have := (decDigits_head 0).2 rfl
          rw [e] at this
          exact hm0 this
        rw [decDigits_big (by omega), show (10 * dval m + (b.toNat - 48)) / 10 = dval m by omega, show (10 * dval m + (b.toNat - 48)) % 10 = b.toNat - 48 by omega, e, byte_eq hb]

theorem decDigits_length (u k : Nat) (hk : 1 ≤ k) : (decDigits u).length ≤ k ↔ u < 10 ^ k := by
  rw [Go.Lib.decDigits_length]
  constructor
  · intro h
    exact Nat.lt_of_lt_of_le (lt_pow_nDigits u) (Nat.pow_le_pow_right (by decide) h)
  · intro h
    induction k generalizing u with
    | zero => omega
    | succ k ih =>
      by_cases hs : u < 10
      · rw [nDigits_small hs]; omega
      · rw [nDigits_big hs]
        rw [Nat.pow_succ] at h
        by_cases hk0 : k = 0
        · subst hk0; simp at h; omega
        · have := ih (u / 10) (by omega) (by omega)
          omega
theorem decDigits_inj {u v : Nat} (h : decDigits u = decDigits v) : u = v := by rw [← dval_decDigits u, ← dval_decDigits v, h]

/-! ### Integers -/
theorem itoa_nonneg {z : Int} (h : 0 ≤ z) : itoa z = decDigits z.natAbs := by
  unfold itoa
  rw [if_neg (by omega)]
  congr 1
  omega
theorem itoa_neg {z : Int} (h : z < 0) : itoa z = 45 :: decDigits z.natAbs := by unfold itoa; rw [if_pos h]
theorem not_minus {u : Nat} {l : List UInt8} : decDigits u ≠ 45 :: l := by
  intro e
  have := decDigits_digits u 45 (by rw [e]; exact List.mem_cons_self)
  revert this
  decide +kernel
theorem itoa_inj {x y : Int} (h : itoa x = itoa y) : x = y := by
  rcases Int.lt_or_le x 0 with hx | hx <;> rcases Int.lt_or_le y 0 with hy | hy
  · rw [itoa_neg hx, itoa_neg hy] at h
    injection h with _ h
    have := decDigits_inj h
    omega
  · rw [itoa_neg hx, itoa_nonneg hy] at h
    exact absurd h.symm not_minus
  · rw [itoa_nonneg hx, itoa_neg hy] at h
    exact absurd h not_minus
  · rw [itoa_nonneg hx, itoa_nonneg hy] at h
    have := decDigits_inj h
    omega

/-- What stands behind a sign. -/
def unsign (l : List UInt8) : List UInt8 := if l.head? = some 45 then l.tail else l
def negSign (l : List UInt8) : Bool := l.head? == some 45
theorem unsign_itoa (z : Int) : unsign (itoa z) = decDigits z.natAbs := by
  unfold unsign
  rcases Int.lt_or_le z 0 with h | h
  · rw [itoa_neg h]; rfl
  · rw [itoa_nonneg h, if_neg]
    intro e
    cases hd : decDigits z.natAbs with
    | nil => exact decDigits_ne _ hd
    | cons b l =>
      rw [hd] at e
      simp at e
      subst e
      exact not_minus hd
theorem negSign_itoa (z : Int) : negSign (itoa z) = decide (z < 0) := by
  unfold negSign
  rcases Int.lt_or_le z 0 with h | h
  · rw [itoa_neg h]; simp [h]
  · rw [itoa_nonneg h]
    have : ¬ z < 0 := by omega
    simp only [this, decide_false]
    cases hd : decDigits z.natAbs with
    | nil => exact absurd hd (decDigits_ne _)
    | cons b l =>
      simp only [List.head?_cons, beq_eq_false_iff_ne, ne_eq, Option.some.injEq]
      rintro rfl
      exact not_minus hd

/-- Whether bytes are a valid integer (of at most 200 digits). -/
def vld (l : List UInt8) : Bool :=
  (decide (unsign l ≠ []) && decide ((unsign l).length ≤ 200) && (unsign l).all (fun b => decide (IsDigit b))) && (decide (l = [48]) || decide ((unsign l).head? ≠ some 48))

theorem vld_itoa (z : Int) (h : z.natAbs < 10 ^ 200) : vld (itoa z) = true := by
  unfold vld
  rw [unsign_itoa]
  have h1 := decDigits_ne z.natAbs
  have h2 := (decDigits_length z.natAbs 200 (by decide)).2 h
  have h3 := decDigits_digits z.natAbs
  have h4 : (decide (itoa z = [48]) || decide ((decDigits z.natAbs).head? ≠ some 48)) = true := by
    by_cases hz : z = 0
    · subst hz
      have : itoa 0 = [48] := by decide +kernel
      rw [this]; rfl
    · have : (decDigits z.natAbs).head? ≠ some 48 := fun e => hz (by have := (decDigits_head z.natAbs).1 e; omega)
      rw [Bool.or_eq_true]
      exact .inr (by simpa using this)
  rw [h4, Bool.and_true]
  simp only [ne_eq, h1, not_false_eq_true, decide_true, h2, Bool.true_and, List.all_eq_true, decide_eq_true_eq]
  exact h3

theorem itoa_of_vld {l : List UInt8} (h : vld l = true) : ∃ z : Int, l = itoa z ∧ z.natAbs < 10 ^ 200 := by
  unfold vld at h
  simp only [Bool.and_eq_true, decide_eq_true_eq, List.all_eq_true, Bool.or_eq_true] at h
  obtain ⟨⟨⟨h1, h2⟩, h3⟩, h4⟩ := h
  have hlt : dval (unsign l) < 10 ^ 200 := Nat.lt_of_lt_of_le (dval_lt h3) (Nat.pow_le_pow_right (by decide) h2)
  by_cases hs : l.head? = some 45
  · have hu : unsign l = l.tail := by unfold unsign; rw [if_pos hs]
    have h5 : l ≠ [48] := by rintro rfl; simp at hs
    have h6 := h4.resolve_left h5
    have e := decDigits_dval h3 h1 (.inr h6)
    have hpos : dval (unsign l) ≠ 0 := by
      intro h0
      rw [h0] at e
      exact h6 (by rw [← e]; exact (decDigits_head 0).2 rfl)
    refine ⟨-(dval (unsign l) : Int), ?_, by simpa using hlt⟩
    rw [itoa_neg (by omega), Int.natAbs_neg, Int.natAbs_natCast, e, hu]
    cases l with
    | nil => simp at hs
    | cons b l => simp at hs; subst hs; rfl
  · have hu : unsign l = l := by unfold unsign; rw [if_neg hs]
    rw [hu] at h1 h3 h4 hlt
    have e := decDigits_dval h3 h1 h4
    refine ⟨(dval l : Int), ?_, by simpa using hlt⟩
    rw [itoa_nonneg (by omega), Int.natAbs_natCast, e]
end Go.Proofs.YtkihodadopcioaaGreatDoor.Dec
