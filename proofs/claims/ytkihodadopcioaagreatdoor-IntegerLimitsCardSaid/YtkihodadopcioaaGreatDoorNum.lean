/- Numbers as lists of groups of four digits, the lowest first: plain mathematics, no program. -/
namespace Go.Proofs.YtkihodadopcioaaGreatDoor.Num

/-- What a list of groups of four digits stands for, the lowest group first. -/
def val : List Nat → Nat
  | [] => 0
  | d :: l => d + 10000 * val l

def Dig (l : List Nat) : Prop := ∀ d ∈ l, d < 10000

/-- The groups of a number, the lowest first, no zero at the end. -/
def grp (n : Nat) : List Nat := if h : n = 0 then [] else n % 10000 :: grp (n / 10000)
termination_by n
decreasing_by exact Nat.div_lt_self (Nat.pos_of_ne_zero h) (by decide)

theorem grp_zero : grp 0 = [] := by rw [grp]; simp
theorem grp_pos {n : Nat} (h : n ≠ 0) : grp n = n % 10000 :: grp (n / 10000) := by rw [grp]; simp [h]

theorem val_grp (n : Nat) : val (grp n) = n := by
  induction n using Nat.strongRecOn with
  | _ n ih =>
    by_cases h : n = 0
    · subst h; rw [grp_zero]; rfl
    · rw [grp_pos h]
      show n % 10000 + 10000 * val (grp (n / 10000)) = n
      rw [ih _ (Nat.div_lt_self (Nat.pos_of_ne_zero h) (by decide))]
      omega

theorem grp_dig (n : Nat) : Dig (grp n) := by
  induction n using Nat.strongRecOn with
  | _ n ih =>
    by_cases h : n = 0
    · subst h; rw [grp_zero]; intro d hd; cases hd
    · rw [grp_pos h]
      intro d hd
      rcases List.mem_cons.1 hd with rfl | hd
      · omega
      · exact ih _ (Nat.div_lt_self (Nat.pos_of_ne_zero h) (by decide)) d hd

theorem grp_eq_nil {n : Nat} : grp n = [] ↔ n = 0 := by
  constructor
  · intro h
    by_cases hn : n = 0
    · exact hn
    · rw [grp_pos hn] at h; cases h
  · rintro rfl; exact grp_zero

theorem Dig.tail {d : Nat} {l : List Nat} (h : Dig (d :: l)) : Dig l := fun x hx => h x (List.mem_cons_of_mem _ hx)
theorem Dig.head {d : Nat} {l : List Nat} (h : Dig (d :: l)) : d < 10000 := h d List.mem_cons_self
theorem Dig.append {l m : List Nat} (h : Dig l) (h' : Dig m) : Dig (l ++ m) := fun x hx => (List.mem_append.1 hx).elim (h x) (h' x)
theorem Dig.take {l : List Nat} (h : Dig l) (k : Nat) : Dig (l.take k) := fun x hx => h x (List.mem_of_mem_take hx)

theorem val_append (l m : List Nat) : val (l ++ m) = val l + 10000 ^ l.length * val m := by
  induction l with
  | nil => simp [val]
  | cons d l ih =>
    simp only [List.cons_append, val, ih, List.length_cons, Nat.pow_succ]
    rw [Nat.mul_add, Nat.add_assoc, ← Nat.mul_assoc, Nat.mul_comm (10000 ^ l.length) 10000]

theorem val_lt {l : List Nat} (h : Dig l) : val l < 10000 ^ l.length := by
  induction l with
  | nil => simp [val]
  | cons d l ih =>
    have h1 := ih h.tail
    have h2 := h.head
    simp only [val, List.length_cons, Nat.pow_succ]
    omega

/-- A list of groups without a zero at its end is the groups of what it stands for. -/
theorem grp_val {l : List Nat} (h : Dig l) (hl : ∀ d, l.getLast? = some d → d ≠ 0) : grp (val l) = l := by
  induction l with
  | nil => exact grp_zero
  | cons d l ih =>
    have hd := h.head
    have hl' : ∀ x, l.getLast? = some x → x ≠ 0 := by
      intro x hx
      apply hl x
      cases l with
      | nil => cases hx
      | cons y l => rw [List.getLast?_cons_cons]; exact hx
    have e := ih h.tail hl'
    have hv : val (d :: l) ≠ 0 := by
      intro hz
      simp only [val] at hz
      have hd0 : d = 0 := by omega
      have hl0 : val l = 0 := by omega
      rw [hl0, grp_zero] at e
      subst e
      exact hl d rfl hd0
    rw [grp_pos hv]
    have e1 : val (d :: l) % 10000 = d := by simp only [val]; omega
    have e2 : val (d :: l) / 10000 = val l := by simp only [val]; omega
    rw [e1, e2, e]

theorem grp_last {n : Nat} {d : Nat} (h : (grp n).getLast? = some d) : d ≠ 0 := by
  induction n using Nat.strongRecOn generalizing d with
  | _ n ih =>
    by_cases hn : n = 0
    · subst hn; rw [grp_zero] at h; cases h
    · rw [grp_pos hn] at h
      by_cases h' : n / 10000 = 0
      · rw [h', grp_zero] at h
        simp at h
        omega
      · have hlt := Nat.div_lt_self (Nat.pos_of_ne_zero hn) (show 1 < 10000 by decide)
        have hg := grp_pos h'
        rw [hg, List.getLast?_cons_cons, ← hg] at h
        exact ih _ hlt h

def gl (n : Nat) : Nat := (grp n).length

theorem gl_le {n k : Nat} : gl n ≤ k ↔ n < 10000 ^ k := by
  constructor
  · intro h
    have h1 := val_lt (grp_dig n)
    rw [val_grp] at h1
    exact Nat.lt_of_lt_of_le h1 (Nat.pow_le_pow_right (by decide) h)
  · intro h
    unfold gl
    induction k generalizing n with
    | zero =>
      have : n = 0 := by simp at h; exact h
      subst this; rw [grp_zero]; simp
    | succ k ih =>
      by_cases hn : n = 0
      · subst hn; rw [grp_zero]; simp
      · rw [grp_pos hn, List.length_cons]
        have : n / 10000 < 10000 ^ k := by
          rw [Nat.pow_succ] at h
          exact Nat.div_lt_of_lt_mul (by rw [Nat.mul_comm]; exact h)
        have := ih this
        omega

theorem gl_zero : gl 0 = 0 := by unfold gl; rw [grp_zero]; rfl
theorem gl_mono {a b : Nat} (h : a ≤ b) : gl a ≤ gl b := gl_le.2 (Nat.lt_of_le_of_lt h (gl_le.1 (Nat.le_refl _)))
theorem lt_pow_gl (a : Nat) : a < 10000 ^ gl a := gl_le.1 (Nat.le_refl _)
theorem gl_pos {a : Nat} : 0 < gl a ↔ a ≠ 0 := by
  rw [Nat.pos_iff_ne_zero]
  exact not_congr ⟨fun h => grp_eq_nil.1 (List.eq_nil_of_length_eq_zero h), fun h => by subst h; exact gl_zero⟩
theorem gl_add (a b : Nat) : gl (a + b) ≤ max (gl a) (gl b) + 1 := by
  rw [gl_le, Nat.pow_succ]
  have h1 : a < 10000 ^ (max (gl a) (gl b)) := gl_le.1 (Nat.le_max_left _ _)
  have h2 : b < 10000 ^ (max (gl a) (gl b)) := gl_le.1 (Nat.le_max_right _ _)
  omega
theorem gl_mul (a b : Nat) : gl (a * b) ≤ gl a + gl b := by
  rw [gl_le, Nat.pow_add]
  exact Nat.mul_lt_mul'' (lt_pow_gl a) (lt_pow_gl b)
theorem pow_gl_le {a : Nat} (h : a ≠ 0) : 10000 ^ (gl a - 1) ≤ a := by
  have h1 : ¬ gl a ≤ gl a - 1 := by have := gl_pos.2 h; omega
  rw [gl_le] at h1
  omega

/-- The number, one place further: a group is put below. -/
theorem grp_shift {n d : Nat} (hd : d < 10000) (h : n ≠ 0 ∨ d ≠ 0) : grp (d + 10000 * n) = d :: grp n := by
  rw [grp_pos (by omega)]
  have e1 : (d + 10000 * n) % 10000 = d := by omega
  have e2 : (d + 10000 * n) / 10000 = n := by omega
  rw [e1, e2]

/-! ### Comparing from the highest group -/
theorem lt_of_gl_lt {a b : Nat} (h : gl a < gl b) : a < b := by
  have h1 := lt_pow_gl a
  have hb : b ≠ 0 := gl_pos.1 (by omega)
  have h2 := pow_gl_le hb
  have h3 : 10000 ^ gl a ≤ 10000 ^ (gl b - 1) := Nat.pow_le_pow_right (by decide) (by omega)
  omega

theorem val_take_drop (l : List Nat) (k : Nat) (hk : k ≤ l.length) : val l = val (l.take k) + 10000 ^ k * val (l.drop k) := by
  have := val_append (l.take k) (l.drop k)
  rw [List.take_append_drop] at this
  rw [this, List.length_take, Nat.min_eq_left hk]

theorem val_lt_of_top {l m : List Nat} (hl : Dig l) (hlen : l.length = m.length) {i : Nat} (hi : i < l.length)
    (hd : l.drop (i + 1) = m.drop (i + 1)) (h : l[i] < m[i]'(by omega)) : val l < val m := by
  have h1 := val_take_drop l i (by omega)
  have h2 := val_take_drop m i (by omega)
  rw [List.drop_eq_getElem_cons hi] at h1
  rw [List.drop_eq_getElem_cons (show i < m.length by omega)] at h2
  simp only [val] at h1 h2
  have h3 := val_lt (hl.take i)
  rw [List.length_take, Nat.min_eq_left (by omega)] at h3
  rw [hd] at h1
  rw [h1, h2]
  generalize val (m.drop (i + 1)) = t at *
  generalize val (l.take i) = u at *
  generalize val (m.take i) = v at *
  have h4 : 10000 ^ i * (l[i] + 10000 * t) + 10000 ^ i ≤ 10000 ^ i * (m[i]'(by omega) + 10000 * t) := by
    rw [← Nat.mul_succ]
    exact Nat.mul_le_mul_left _ (by omega)
  omega

/-! ### Leaving out zeros at the end -/
theorem val_take_pred {l : List Nat} {k : Nat} (h0 : l[k]? = some 0) : val (l.take (k + 1)) = val (l.take k) := by
  rw [List.take_add_one, h0, val_append]
  simp [val]

theorem grp_of_take {l : List Nat} (hd : Dig l) {k : Nat} (hk : k ≤ l.length) (hv : val (l.take k) = val l) (hz : k = 0 ∨ ∃ d, l[k - 1]? = some d ∧ d ≠ 0) : grp (val l) = l.take k := by
  rw [← hv]
  refine grp_val (hd.take k) (fun d h => ?_)
  rcases hz with rfl | ⟨d', h1, h2⟩
  · simp at h
  · rw [List.getLast?_eq_getElem?, List.length_take, Nat.min_eq_left hk, List.getElem?_take] at h
    split at h
    · rw [h1] at h; cases h; exact h2
    · cases h

/-! ### Digits that are passed on with a carry -/
/-- What k digits from the i-th on stand for. -/
def tot (dg : Nat → Int) : Nat → Nat → Int
  | _, 0 => 0
  | i, k + 1 => dg i + 10000 * tot dg (i + 1) k

/-- After i rounds: the carry c, and the groups o so far. -/
def FoldInv (dg : Nat → Int) (n i : Nat) (c : Int) (o : List Nat) : Prop :=
  o.length = i ∧ Dig o ∧ i ≤ n + 1 ∧ -1 ≤ c ∧ c ≤ 9999 ∧ (n + 1 ≤ i → c = 0) ∧ (val o : Int) + 10000 ^ i * (c + tot dg i (n - i)) = tot dg 0 n

theorem FoldInv.start (dg : Nat → Int) (n : Nat) : FoldInv dg n 0 0 [] := by
  refine ⟨rfl, fun d hd => (by cases hd), by omega, by omega, by omega, fun _ => rfl, ?_⟩
  simp [val]

theorem FoldInv.step {dg : Nat → Int} {n i : Nat} {c c' : Int} {o : List Nat} {r : Nat} (h : FoldInv dg n i c o) (hz : n ≤ i → dg i = 0) (ht : 0 ≤ tot dg 0 n)
    (hgo : i < n ∨ c ≠ 0) (hs : dg i + c = r + 10000 * c') (hr : r < 10000) (hc1 : -1 ≤ c') (hc2 : c' ≤ 9999) : FoldInv dg n (i + 1) c' (o ++ [r]) := by
  obtain ⟨h1, h2, h3, h4, h5, h6, h7⟩ := h
  have hv : (val (o ++ [r]) : Int) = val o + 10000 ^ i * (r : Int) := by
    rw [val_append, h1]
    simp [val]
  have hend : n ≤ i → c' = 0 ∧ i = n := by
    intro hi
    have hc0 : c ≠ 0 := by omega
    have hin : i = n := by
      by_cases h8 : n + 1 ≤ i
      · exact absurd (h6 h8) hc0
      · omega
    subst hin
    rw [Nat.sub_self] at h7
    simp only [tot, Int.add_zero] at h7
    have hlt := val_lt h2
    rw [h1] at hlt
    have hlt' : (val o : Int) < 10000 ^ i := by
      have hp : ((10000 ^ i : Nat) : Int) = (10000 : Int) ^ i := by rw [Int.natCast_pow]; rfl
      omega
    have hcp : 0 ≤ c := by
      rcases Int.lt_or_le c 0 with hneg | hpos
      · have : c = -1 := by omega
        subst this
        omega
      · exact hpos
    have := hz (Nat.le_refl _)
    omega
  refine ⟨by simp [h1], h2.append (fun d hd => by simp at hd; omega), ?_, hc1, hc2, fun hi => (hend (by omega)).1, ?_⟩
  · by_cases hi : n ≤ i
    · have := (hend hi).2; omega
    · omega
  · rw [hv, ← h7]
    by_cases hi : i < n
    · rw [show n - i = (n - (i + 1)) + 1 by omega]
      simp only [tot]
      rw [Int.pow_succ]
      generalize tot dg (i + 1) (n - (i + 1)) = t
      have e : c + (dg i + 10000 * t) = (r : Int) + 10000 * (c' + t) := by omega
      rw [e]
      generalize (10000 : Int) ^ i = p
      have e2 : p * ((r : Int) + 10000 * (c' + t)) = p * r + p * 10000 * (c' + t) := by rw [Int.mul_add p, Int.mul_assoc]
      rw [e2, Int.add_assoc]
    · obtain ⟨rfl, rfl⟩ := hend (by omega)
      rw [Nat.sub_self, show i - (i + 1) = 0 by omega]
      simp only [tot]
      have := hz (Nat.le_refl _)
      have e : c = r := by omega
      rw [e]
      simp

theorem FoldInv.done {dg : Nat → Int} {n i : Nat} {o : List Nat} (h : FoldInv dg n i 0 o) (hi : n ≤ i) : (val o : Int) = tot dg 0 n := by
  obtain ⟨_, _, _, _, _, _, h7⟩ := h
  rw [show n - i = 0 by omega] at h7
  simp only [tot] at h7
  simpa using h7

theorem tot_shift (f : Nat → Int) (i k : Nat) : tot f (i + 1) k = tot (fun j => f (j + 1)) i k := by
  induction k generalizing i with
  | zero => rfl
  | succ k ih => simp only [tot, ih]

theorem tot_list (l : List Nat) (k : Nat) (h : l.length ≤ k) : tot (fun j => ((l[j]?.getD 0 : Nat) : Int)) 0 k = (val l : Int) := by
  induction l generalizing k with
  | nil =>
    have : ∀ i k, tot (fun j => ((([] : List Nat)[j]?.getD 0 : Nat) : Int)) i k = 0 := by
      intro i k
      induction k generalizing i with
      | zero => rfl
      | succ k ih => simp only [tot, ih]; simp
    rw [this]; rfl
  | cons d l ih =>
    obtain ⟨k, rfl⟩ : ∃ m, k = m + 1 := ⟨k - 1, by simp at h; omega⟩
    simp only [tot]
    rw [tot_shift]
    have := ih k (by simpa using h)
    simp only [List.getElem?_cons_succ]
    rw [this]
    simp [val]

theorem tot_add (f g : Nat → Int) (i k : Nat) : tot (fun j => f j + g j) i k = tot f i k + tot g i k := by
  induction k generalizing i with
  | zero => rfl
  | succ k ih => simp only [tot, ih]; omega
theorem tot_sub (f g : Nat → Int) (i k : Nat) : tot (fun j => f j - g j) i k = tot f i k - tot g i k := by
  induction k generalizing i with
  | zero => rfl
  | succ k ih => simp only [tot, ih]; omega
theorem tot_mul (f : Nat → Int) (c : Int) (i k : Nat) : tot (fun j => f j * c) i k = tot f i k * c := by
  induction k generalizing i with
  | zero => simp [tot]
  | succ k ih => simp only [tot, ih]; rw [Int.add_mul, Int.mul_assoc]

/-! ### The highest group that differs decides -/
theorem drop_of_eq {l m : List Nat} {k d : Nat} (hl : l[k]? = some d) (hm : m[k]? = some d) (h : l.drop (k + 1) = m.drop (k + 1)) : l.drop k = m.drop k := by
  obtain ⟨h1, rfl⟩ := List.getElem?_eq_some_iff.1 hl
  obtain ⟨h2, e⟩ := List.getElem?_eq_some_iff.1 hm
  rw [List.drop_eq_getElem_cons h1, List.drop_eq_getElem_cons h2, h, e]
theorem lt_of_top {a b k d d' : Nat} (hlen : gl a = gl b) (ha : (grp a)[k]? = some d) (hb : (grp b)[k]? = some d') (h : (grp a).drop (k + 1) = (grp b).drop (k + 1)) (hlt : d < d') : a < b := by
  obtain ⟨h1, rfl⟩ := List.getElem?_eq_some_iff.1 ha
  obtain ⟨h2, rfl⟩ := List.getElem?_eq_some_iff.1 hb
  have := val_lt_of_top (grp_dig a) hlen h1 h hlt
  rwa [val_grp, val_grp] at this
theorem eq_of_grp {a b : Nat} (h : grp a = grp b) : a = b := by rw [← val_grp a, ← val_grp b, h]

/-! ### What the groups from the k-th on stand for -/
def hi (b k : Nat) : Nat := val ((grp b).drop k)
theorem hi_zero (b : Nat) : hi b 0 = b := by unfold hi; rw [List.drop_zero, val_grp]
theorem hi_end (b : Nat) : hi b (grp b).length = 0 := by unfold hi; rw [List.drop_length]; rfl
theorem hi_succ {b k d : Nat} (h : (grp b)[k]? = some d) : hi b k = d + 10000 * hi b (k + 1) := by
  obtain ⟨h1, rfl⟩ := List.getElem?_eq_some_iff.1 h
  unfold hi
  rw [List.drop_eq_getElem_cons h1]
  rfl
theorem hi_le (b k : Nat) : hi b k ≤ b := by
  by_cases hk : k ≤ (grp b).length
  · have := val_take_drop (grp b) k hk
    rw [val_grp] at this
    unfold hi
    have hp : 0 < 10000 ^ k := Nat.pow_pos (by decide)
    have : val ((grp b).drop k) ≤ 10000 ^ k * val ((grp b).drop k) := Nat.le_mul_of_pos_left _ hp
    omega
  · unfold hi
    rw [List.drop_eq_nil_of_le (by omega)]
    exact Nat.zero_le _
theorem grp_get_lt {b k d : Nat} (h : (grp b)[k]? = some d) : d < 10000 := grp_dig b d (List.mem_of_getElem? h)

end Go.Proofs.YtkihodadopcioaaGreatDoor.Num
