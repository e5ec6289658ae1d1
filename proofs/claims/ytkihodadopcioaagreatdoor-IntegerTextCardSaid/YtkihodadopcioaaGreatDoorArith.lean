/- Numbers in groups of four digits: the plain mathematics, rows in the heap, and the walks of the functions on absolute values up to the steps of 'over'. -/
import Derived.Test.YtkihodadopcioaaGreatDoorProg
import Derived.WalkKit
import Derived.Outline
import Derived.Below
import Derived.Lib.Hide
import Derived.Deep.QuietTactic
import Derived.BigQuiet
import Derived.Deep.RegionWith
import Derived.Laws.OwnMore
import Derived.Deep.Draws
import Derived.RangeFuncBox
import Derived.RangeFuncLeaves
import Derived.RangeFuncCalls
import Derived.Shelf.Abstract
import Derived.OwnWalkIn
import Derived.TacticsInMore
import Derived.LoopNIn
import Derived.LoopIn
import Derived.LoopTactic
import Derived.Deep.LoopGhost
import Derived.OwnWalk
import Derived.Maps.AppendAt
import Derived.Shelf.RegionOpen
import Derived.Deep.OwnRows
import Derived.Laws.EntriesVeiled
namespace Go.Proofs.YtkihodadopcioaaGreatDoor.Num

/-- What a list of groups of four digits stands for, the lowest group first. -/
def val : List Nat → Nat
  | [] => 0
  | d :: l => d + 10000 * val l

def Dig (l : List Nat) : Prop := ∀ d ∈ l, d < 10000

/-- The groups of a number, the lowest first, no zero at the end. -/
def grp (n : Nat) : List Nat := if h : n = 0 then [] else n % 10000 :: grp (n / 10000)
termination_by n
decreasing_by exact Nat.div_lt_self (Nat.pos_of_ne_zero h) (by decide)

theorem grp_zero : grp 0 = [] := by rw [grp]; simp
theorem grp_pos {n : Nat} (h : n ≠ 0) : grp n = n % 10000 :: grp (n / 10000) := by rw [grp]; simp [h]

theorem val_grp (n : Nat) : val (grp n) = n := by
  induction n using Nat.strongRecOn with
  | _ n ih =>
    by_cases h : n = 0
    · subst h; rw [grp_zero]; rfl
    · rw [grp_pos h]
      show n % 10000 + 10000 * val (grp (n / 10000)) = n
      rw [ih _ (Nat.div_lt_self (Nat.pos_of_ne_zero h) (by decide))]
      omega

theorem grp_dig (n : Nat) : Dig (grp n) := by
  induction n using Nat.strongRecOn with
  | _ n ih =>
    by_cases h : n = 0
    · subst h; rw [grp_zero]; intro d hd; cases hd
    · rw [grp_pos h]
      intro d hd
      rcases List.mem_cons.1 hd with rfl | hd
      · omega
      · exact ih _ (Nat.div_lt_self (Nat.pos_of_ne_zero h) (by decide)) d hd

theorem grp_eq_nil {n : Nat} : grp n = [] ↔ n = 0 := by
  constructor
  · intro h
    by_cases hn : n = 0
    · exact hn
    · rw [grp_pos hn] at h; cases h
  · rintro rfl; exact grp_zero

theorem Dig.tail {d : Nat} {l : List Nat} (h : Dig (d :: l)) : Dig l := fun x hx => h x (List.mem_cons_of_mem _ hx)
theorem Dig.head {d : Nat} {l : List Nat} (h : Dig (d :: l)) : d < 10000 := h d List.mem_cons_self
theorem Dig.append {l m : List Nat} (h : Dig l) (h' : Dig m) : Dig (l ++ m) := fun x hx => (List.mem_append.1 hx).elim (h x) (h' x)
theorem Dig.take {l : List Nat} (h : Dig l) (k : Nat) : Dig (l.take k) := fun x hx => h x (List.mem_of_mem_take hx)

theorem val_append (l m : List Nat) : val (l ++ m) = val l + 10000 ^ l.length * val m := by
  induction l with
  | nil => simp [val]
  | cons d l ih =>
    simp only [List.cons_append, val, ih, List.length_cons, Nat.pow_succ]
    rw [Nat.mul_add, Nat.add_assoc, ← Nat.mul_assoc, Nat.mul_comm (10000 ^ l.length) 10000]

theorem val_lt {l : List Nat} (h : Dig l) : val l < 10000 ^ l.length := by
  induction l with
  | nil => simp [val]
  | cons d l ih =>
    have h1 := ih h.tail
    have h2 := h.head
    simp only [val, List.length_cons, Nat.pow_succ]
    omega

/-- A list of groups without a zero at its end is the groups of what it stands for. -/
theorem grp_val {l : List Nat} (h : Dig l) (hl : ∀ d, l.getLast? = some d → d ≠ 0) : grp (val l) = l := by
  induction l with
  | nil => exact grp_zero
  | cons d l ih =>
    have hd := h.head
    have hl' : ∀ x, l.getLast? = some x → x ≠ 0 := by
      intro x hx
      apply hl x
      cases l with
      | nil => cases hx
      | cons y l => rw [List.getLast?_cons_cons]; exact hx
    have e := ih h.tail hl'
    have hv : val (d :: l) ≠ 0 := by
      intro hz
      simp only [val] at hz
      have hd0 : d = 0 := by omega
      have hl0 : val l = 0 := by omega
      rw [hl0, grp_zero] at e
      subst e
      exact hl d rfl hd0
    rw [grp_pos hv]
    have e1 : val (d :: l) % 10000 = d := by simp only [val]; omega
    have e2 : val (d :: l) / 10000 = val l := by simp only [val]; omega
    rw [e1, e2, e]

theorem grp_last {n : Nat} {d : Nat} (h : (grp n).getLast? = some d) : d ≠ 0 := by
  induction n using Nat.strongRecOn generalizing d with
  | _ n ih =>
    by_cases hn : n = 0
    · subst hn; rw [grp_zero] at h; cases h
    · rw [grp_pos hn] at h
      by_cases h' : n / 10000 = 0
      · rw [h', grp_zero] at h
        simp at h
        omega
      · have hlt := Nat.div_lt_self (Nat.pos_of_ne_zero hn) (show 1 < 10000 by decide)
        have hg := grp_pos h'
        rw [hg, List.getLast?_cons_cons, ← hg] at h
        exact ih _ hlt h

def gl (n : Nat) : Nat := (grp n).length

theorem gl_le {n k : Nat} : gl n ≤ k ↔ n < 10000 ^ k := by
  constructor
  · intro h
    have h1 := val_lt (grp_dig n)
    rw [val_grp] at h1
    exact Nat.lt_of_lt_of_le h1 (Nat.pow_le_pow_right (by decide) h)
  · intro h
    unfold gl
    induction k generalizing n with
    | zero =>
      have : n = 0 := by simp at h; exact h
      subst this; rw [grp_zero]; simp
    | succ k ih =>
      by_cases hn : n = 0
      · subst hn; rw [grp_zero]; simp
      · rw [grp_pos hn, List.length_cons]
        have : n / 10000 < 10000 ^ k := by
          rw [Nat.pow_succ] at h
          exact Nat.div_lt_of_lt_mul (by rw [Nat.mul_comm]; exact h)
        have := ih this
        omega

theorem gl_zero : gl 0 = 0 := by unfold gl; rw [grp_zero]; rfl
theorem gl_mono {a b : Nat} (h : a ≤ b) : gl a ≤ gl b := gl_le.2 (Nat.lt_of_le_of_lt h (gl_le.1 (Nat.le_refl _)))
theorem lt_pow_gl (a : Nat) : a < 10000 ^ gl a := gl_le.1 (Nat.le_refl _)
theorem gl_pos {a : Nat} : 0 < gl a ↔ a ≠ 0 := by
  rw [Nat.pos_iff_ne_zero]
  exact not_congr ⟨fun h => grp_eq_nil.1 (List.eq_nil_of_length_eq_zero h), fun h => by subst h; exact gl_zero⟩
theorem gl_add (a b : Nat) : gl (a + b) ≤ max (gl a) (gl b) + 1 := by
  rw [gl_le, Nat.pow_succ]
  have h1 : a < 10000 ^ (max (gl a) (gl b)) := gl_le.1 (Nat.le_max_left _ _)
  have h2 : b < 10000 ^ (max (gl a) (gl b)) := gl_le.1 (Nat.le_max_right _ _)
  omega
theorem gl_mul (a b : Nat) : gl (a * b) ≤ gl a + gl b := by
  rw [gl_le, Nat.pow_add]
  exact Nat.mul_lt_mul'' (lt_pow_gl a) (lt_pow_gl b)
theorem pow_gl_le {a : Nat} (h : a ≠ 0) : 10000 ^ (gl a - 1) ≤ a := by
  have h1 : ¬ gl a ≤ gl a - 1 := by have := gl_pos.2 h; omega
  rw [gl_le] at h1
  omega

/-- The number, one place further: a group is put below. -/
theorem grp_shift {n d : Nat} (hd : d < 10000) (h : n ≠ 0 ∨ d ≠ 0) : grp (d + 10000 * n) = d :: grp n := by
  rw [grp_pos (by omega)]
  have e1 : (d + 10000 * n) % 10000 = d := by omega
  have e2 : (d + 10000 * n) / 10000 = n := by omega
  rw [e1, e2]

/-! ### Comparing from the highest group -/
theorem lt_of_gl_lt {a b : Nat} (h : gl a < gl b) : a < b := by
  have h1 := lt_pow_gl a
  have hb : b ≠ 0 := gl_pos.1 (by omega)
  have h2 := pow_gl_le hb
  have h3 : 10000 ^ gl a ≤ 10000 ^ (gl b - 1) := Nat.pow_le_pow_right (by decide) (by omega)
  omega

theorem val_take_drop (l : List Nat) (k : Nat) (hk : k ≤ l.length) : val l = val (l.take k) + 10000 ^ k * val (l.drop k) := by
  have := val_append (l.take k) (l.drop k)
  rw [List.take_append_drop] at this
  rw [this, List.length_take, Nat.min_eq_left hk]

theorem val_lt_of_top {l m : List Nat} (hl : Dig l) (hlen : l.length = m.length) {i : Nat} (hi : i < l.length)
    (hd : l.drop (i + 1) = m.drop (i + 1)) (h : l[i] < m[i]'(by omega)) : val l < val m := by
  have h1 := val_take_drop l i (by omega)
  have h2 := val_take_drop m i (by omega)
  rw [List.drop_eq_getElem_cons hi] at h1
  rw [List.drop_eq_getElem_cons (show i < m.length by omega)] at h2
  simp only [val] at h1 h2
  have h3 := val_lt (hl.take i)
  rw [List.length_take, Nat.min_eq_left (by omega)] at h3
  rw [hd] at h1
  rw [h1, h2]
  generalize val (m.drop (i + 1)) = t at *
  generalize val (l.take i) = u at *
  generalize val (m.take i) = v at *
  have h4 : 10000 ^ i * (l[i] + 10000 * t) + 10000 ^ i ≤ 10000 ^ i * (m[i]'(by omega) + 10000 * t) := by
    rw [← Nat.mul_succ]
    exact Nat.mul_le_mul_left _ (by omega)
  omega

/-! ### Leaving out zeros at the end -/
theorem val_take_pred {l : List Nat} {k : Nat} (h0 : l[k]? = some 0) : val (l.take (k + 1)) = val (l.take k) := by
  rw [List.take_add_one, h0, val_append]
  simp [val]

theorem grp_of_take {l : List Nat} (hd : Dig l) {k : Nat} (hk : k ≤ l.length) (hv : val (l.take k) = val l) (hz : k = 0 ∨ ∃ d, l[k - 1]? = some d ∧ d ≠ 0) : grp (val l) = l.take k := by
  rw [← hv]
  refine grp_val (hd.take k) (fun d h => ?_)
  rcases hz with rfl | ⟨d', h1, h2⟩
  · simp at h
  · rw [List.getLast?_eq_getElem?, List.length_take, Nat.min_eq_left hk, List.getElem?_take] at h
    split at h
    · rw [h1] at h; cases h; exact h2
    · cases h

/-! ### Digits that are passed on with a carry -/
/-- What k digits from the i-th on stand for. -/
def tot (dg : Nat → Int) : Nat → Nat → Int
  | _, 0 => 0
  | i, k + 1 => dg i + 10000 * tot dg (i + 1) k

/-- After i rounds: the carry c, and the groups o so far. -/
def FoldInv (dg : Nat → Int) (n i : Nat) (c : Int) (o : List Nat) : Prop :=
  o.length = i ∧ Dig o ∧ i ≤ n + 1 ∧ -1 ≤ c ∧ c ≤ 9999 ∧ (n + 1 ≤ i → c = 0) ∧ (val o : Int) + 10000 ^ i * (c + tot dg i (n - i)) = tot dg 0 n

theorem FoldInv.start (dg : Nat → Int) (n : Nat) : FoldInv dg n 0 0 [] := by
  refine ⟨rfl, fun d hd => (by cases hd), by omega, by omega, by omega, fun _ => rfl, ?_⟩
  simp [val]

theorem FoldInv.step {dg : Nat → Int} {n i : Nat} {c c' : Int} {o : List Nat} {r : Nat} (h : FoldInv dg n i c o) (hz : n ≤ i → dg i = 0) (ht : 0 ≤ tot dg 0 n)
    (hgo : i < n ∨ c ≠ 0) (hs : dg i + c = r + 10000 * c') (hr : r < 10000) (hc1 : -1 ≤ c') (hc2 : c' ≤ 9999) : FoldInv dg n (i + 1) c' (o ++ [r]) := by
  obtain ⟨h1, h2, h3, h4, h5, h6, h7⟩ := h
  have hv : (val (o ++ [r]) : Int) = val o + 10000 ^ i * (r : Int) := by
    rw [val_append, h1]
    simp [val]
  have hend : n ≤ i → c' = 0 ∧ i = n := by
    intro hi
    have hc0 : c ≠ 0 := by omega
    have hin : i = n := by
      by_cases h8 : n + 1 ≤ i
      · exact absurd (h6 h8) hc0
      · omega
    subst hin
    rw [Nat.sub_self] at h7
    simp only [tot, Int.add_zero] at h7
    have hlt := val_lt h2
    rw [h1] at hlt
    have hlt' : (val o : Int) < 10000 ^ i := by
      have hp : ((10000 ^ i : Nat) : Int) = (10000 : Int) ^ i := by rw [Int.natCast_pow]; rfl
      omega
    have hcp : 0 ≤ c := by
      rcases Int.lt_or_le c 0 with hneg | hpos
      · have : c = -1 := by omega
        subst this
        omega
      · exact hpos
    have := hz (Nat.le_refl _)
    omega
  refine ⟨by simp [h1], h2.append (fun d hd => by simp at hd; omega), ?_, hc1, hc2, fun hi => (hend (by omega)).1, ?_⟩
  · by_cases hi : n ≤ i
    · have := (hend hi).2; omega
    · omega
  · rw [hv, ← h7]
    by_cases hi : i < n
    · rw [show n - i = (n - (i + 1)) + 1 by omega]
      simp only [tot]
      rw [Int.pow_succ]
      generalize tot dg (i + 1) (n - (i + 1)) = t
      have e : c + (dg i + 10000 * t) = (r : Int) + 10000 * (c' + t) := by omega
      rw [e]
      generalize (10000 : Int) ^ i = p
      have e2 : p * ((r : Int) + 10000 * (c' + t)) = p * r + p * 10000 * (c' + t) := by rw [Int.mul_add p, Int.mul_assoc]
      rw [e2, Int.add_assoc]
    · obtain ⟨rfl, rfl⟩ := hend (by omega)
      rw [Nat.sub_self, show i - (i + 1) = 0 by omega]
      simp only [tot]
      have := hz (Nat.le_refl _)
      have e : c = r := by omega
      rw [e]
      simp

theorem FoldInv.done {dg : Nat → Int} {n i : Nat} {o : List Nat} (h : FoldInv dg n i 0 o) (hi : n ≤ i) : (val o : Int) = tot dg 0 n := by
  obtain ⟨_, _, _, _, _, _, h7⟩ := h
  rw [show n - i = 0 by omega] at h7
  simp only [tot] at h7
  simpa using h7

theorem tot_shift (f : Nat → Int) (i k : Nat) : tot f (i + 1) k = tot (fun j => f (j + 1)) i k := by
  induction k generalizing i with
  | zero => rfl
  | succ k ih => simp only [tot, ih]

theorem tot_list (l : List Nat) (k : Nat) (h : l.length ≤ k) : tot (fun j => ((l[j]?.getD 0 : Nat) : Int)) 0 k = (val l : Int) := by
  induction l generalizing k with
  | nil =>
    have : ∀ i k, tot (fun j => ((([] : List Nat)[j]?.getD 0 : Nat) : Int)) i k = 0 := by
      intro i k
      induction k generalizing i with
      | zero => rfl
      | succ k ih => simp only [tot, ih]; simp
    rw [this]; rfl
  | cons d l ih =>
    obtain ⟨k, rfl⟩ : ∃ m, k = m + 1 := ⟨k - 1, by simp at h; omega⟩
    simp only [tot]
    rw [tot_shift]
    have := ih k (by simpa using h)
    simp only [List.getElem?_cons_succ]
    rw [this]
    simp [val]

theorem tot_add (f g : Nat → Int) (i k : Nat) : tot (fun j => f j + g j) i k = tot f i k + tot g i k := by
  induction k generalizing i with
  | zero => rfl
  | succ k ih => simp only [tot, ih]; omega
theorem tot_sub (f g : Nat → Int) (i k : Nat) : tot (fun j => f j - g j) i k = tot f i k - tot g i k := by
  induction k generalizing i with
  | zero => rfl
  | succ k ih => simp only [tot, ih]; omega
theorem tot_mul (f : Nat → Int) (c : Int) (i k : Nat) : tot (fun j => f j * c) i k = tot f i k * c := by
  induction k generalizing i with
  | zero => simp [tot]
  | succ k ih => simp only [tot, ih]; rw [Int.add_mul, Int.mul_assoc]

/-! ### The highest group that differs decides -/
theorem drop_of_eq {l m : List Nat} {k d : Nat} (hl : l[k]? = some d) (hm : m[k]? = some d) (h : l.drop (k + 1) = m.drop (k + 1)) : l.drop k = m.drop k := by
  obtain ⟨h1, rfl⟩ := List.getElem?_eq_some_iff.1 hl
  obtain ⟨h2, e⟩ := List.getElem?_eq_some_iff.1 hm
  rw [List.drop_eq_getElem_cons h1, List.drop_eq_getElem_cons h2, h, e]
theorem lt_of_top {a b k d d' : Nat} (hlen : gl a = gl b) (ha : (grp a)[k]? = some d) (hb : (grp b)[k]? = some d') (h : (grp a).drop (k + 1) = (grp b).drop (k + 1)) (hlt : d < d') : a < b := by
  obtain ⟨h1, rfl⟩ := List.getElem?_eq_some_iff.1 ha
  obtain ⟨h2, rfl⟩ := List.getElem?_eq_some_iff.1 hb
  have := val_lt_of_top (grp_dig a) hlen h1 h hlt
  rwa [val_grp, val_grp] at this
theorem eq_of_grp {a b : Nat} (h : grp a = grp b) : a = b := by rw [← val_grp a, ← val_grp b, h]

/-! ### What the groups from the k-th on stand for -/
def hi (b k : Nat) : Nat := val ((grp b).drop k)
theorem hi_zero (b : Nat) : hi b 0 = b := by unfold hi; rw [List.drop_zero, val_grp]
theorem hi_end (b : Nat) : hi b (grp b).length = 0 := by unfold hi; rw [List.drop_length]; rfl
theorem hi_succ {b k d : Nat} (h : (grp b)[k]? = some d) : hi b k = d + 10000 * hi b (k + 1) := by
  obtain ⟨h1, rfl⟩ := List.getElem?_eq_some_iff.1 h
  unfold hi
  rw [List.drop_eq_getElem_cons h1]
  rfl
theorem hi_le (b k : Nat) : hi b k ≤ b := by
  by_cases hk : k ≤ (grp b).length
  · have := val_take_drop (grp b) k hk
    rw [val_grp] at this
    unfold hi
    have hp : 0 < 10000 ^ k := Nat.pow_pos (by decide)
    have : val ((grp b).drop k) ≤ 10000 ^ k * val ((grp b).drop k) := Nat.le_mul_of_pos_left _ hp
    omega
  · unfold hi
    rw [List.drop_eq_nil_of_le (by omega)]
    exact Nat.zero_le _
theorem grp_get_lt {b k d : Nat} (h : (grp b)[k]? = some d) : d < 10000 := grp_dig b d (List.mem_of_getElem? h)

end Go.Proofs.YtkihodadopcioaaGreatDoor.Num
namespace Go.Proofs.YtkihodadopcioaaGreatDoor
open Go.RowKit

/-- A digit as a value. -/
abbrev dv (d : Nat) : Value := .int .i64 (d : Int)

/-- From the address a on the cells read as the groups l, in a block below B. -/
def Row (B : Nat) (w : World) (a : Option Addr) (l : List Nat) : Prop :=
  l ≠ [] → ∃ b o, a = some ⟨b, o, none⟩ ∧ b < B ∧ ∀ j d, l[j]? = some d → w.cell? ⟨b, o + j, none⟩ = some (dv d)

theorem Row.nil {B : Nat} {w : World} {a : Option Addr} : Row B w a [] := fun h => absurd rfl h
theorem Row.keep {B : Nat} {w w' : World} {a : Option Addr} {l : List Nat} (h : Row B w a l) (hk : ∀ p : Addr, p.block < B → w'.cell? p = w.cell? p) : Row B w' a l := fun hl => by
  obtain ⟨b, o, e, hb, hc⟩ := h hl
  exact ⟨b, o, e, hb, fun j d hd => (hk ⟨b, o + j, none⟩ hb).trans (hc j d hd)⟩
theorem Row.below {B : Nat} {w w' : World} {a : Option Addr} {l : List Nat} (h : Row B w a l) (hb : Below B w w') : Row B w' a l := h.keep fun p hp => hb.cell (p := p) hp
theorem Row.mono {B B' : Nat} {w : World} {a : Option Addr} {l : List Nat} (h : Row B w a l) (hB : B ≤ B') : Row B' w a l := fun hl => by
  obtain ⟨b, o, e, hb, hc⟩ := h hl
  exact ⟨b, o, e, by omega, hc⟩
theorem Row.take {B : Nat} {w : World} {a : Option Addr} {l : List Nat} (h : Row B w a l) (k : Nat) : Row B w a (l.take k) := fun hl => by
  obtain ⟨b, o, e, hb, hc⟩ := h (by intro h0; subst h0; simp at hl)
  refine ⟨b, o, e, hb, fun j d hd => hc j d ?_⟩
  rw [List.getElem?_take] at hd
  split at hd
  · exact hd
  · cases hd

/-- The slice value v reads as the groups of n, in blocks below B. -/
def IsNum (B : Nat) (w : World) (v : Value) (n : Nat) : Prop :=
  ∃ a cap, v = .slice a (Num.gl n) cap ∧ Num.gl n ≤ cap ∧ Row B w a (Num.grp n)

theorem IsNum.below {B : Nat} {w w' : World} {v : Value} {n : Nat} (h : IsNum B w v n) (hb : Below B w w') : IsNum B w' v n := by
  obtain ⟨a, cap, e, hc, hr⟩ := h
  exact ⟨a, cap, e, hc, hr.below hb⟩
theorem IsNum.mono {B B' : Nat} {w : World} {v : Value} {n : Nat} (h : IsNum B w v n) (hB : B ≤ B') : IsNum B' w v n := by
  obtain ⟨a, cap, e, hc, hr⟩ := h
  exact ⟨a, cap, e, hc, hr.mono hB⟩
/-- What was a number below the heap's size stays one, whatever the call makes. -/
theorem IsNum.later {w w' : World} {v : Value} {n : Nat} (h : IsNum w.heap.size w v n) (hb : Below w.heap.size w w') : IsNum w'.heap.size w' v n := (h.below hb).mono hb.size

/-- The row from a on, if there is one, lies in a block from L on. -/
def Frs (L : Nat) (a : Option Addr) (l : List Nat) : Prop := l ≠ [] → ∀ p, a = some p → L ≤ p.block
/-- A number whose row lies in a block from L on. -/
def IsNew (L B : Nat) (w : World) (v : Value) (n : Nat) : Prop :=
  ∃ a cap, v = .slice a (Num.gl n) cap ∧ Num.gl n ≤ cap ∧ Row B w a (Num.grp n) ∧ Frs L a (Num.grp n)
theorem IsNew.num {L B : Nat} {w : World} {v : Value} {n : Nat} (h : IsNew L B w v n) : IsNum B w v n := by
  obtain ⟨a, cap, e, hc, hr, _⟩ := h
  exact ⟨a, cap, e, hc, hr⟩
theorem IsNew.below {L B : Nat} {w w' : World} {v : Value} {n : Nat} (h : IsNew L B w v n) (hb : Below B w w') : IsNew L B w' v n := by
  obtain ⟨a, cap, e, hc, hr, hf⟩ := h
  exact ⟨a, cap, e, hc, hr.below hb, hf⟩
theorem IsNew.later {L : Nat} {w w' : World} {v : Value} {n : Nat} (h : IsNew L w.heap.size w v n) (hb : Below w.heap.size w w') : IsNew L w'.heap.size w' v n := by
  obtain ⟨a, cap, e, hc, hr, hf⟩ := h.below hb
  exact ⟨a, cap, e, hc, hr.mono hb.size, hf⟩
theorem IsNew.from {L L' B : Nat} {w : World} {v : Value} {n : Nat} (h : IsNew L B w v n) (hL : L' ≤ L) : IsNew L' B w v n := by
  obtain ⟨a, cap, e, hc, hr, hf⟩ := h
  exact ⟨a, cap, e, hc, hr, fun hl p hp => Nat.le_trans hL (hf hl p hp)⟩

/-- The group at an index, 0 beyond the end. -/
def dig (n i : Nat) : Nat := (Num.grp n)[i]?.getD 0
theorem dig_lt (n i : Nat) : dig n i < 10000 := by
  unfold dig
  cases h : (Num.grp n)[i]? with
  | none => simp
  | some d => exact Num.grp_dig n d (List.mem_of_getElem? h)
theorem dig_beyond {n i : Nat} (h : Num.gl n ≤ i) : dig n i = 0 := by
  unfold dig
  rw [List.getElem?_eq_none (by exact h)]; rfl

set_option maxHeartbeats 400000 in
theorem at_row (b o len cap i d : Nat) (w : World) (hi : i < len) (hc : w.cell? ⟨b, o + i, none⟩ = some (dv d)) :
    Calls Tryz.prog 133 #[.slice (some ⟨b, o, none⟩) len cap, .int .i64 (i : Int)] w fun e w' => e = .returned (dv d) ∧ w = w' := by
  go_enter Tryz.func133, Tryz.ntmps133
  go_wp2
  go_ret
  exact ⟨rfl, rfl⟩

set_option maxHeartbeats 400000 in
theorem at_beyond (a : Option Addr) (len cap i : Nat) (w : World) (hi : ¬ i < len) :
    Calls Tryz.prog 133 #[.slice a len cap, .int .i64 (i : Int)] w fun e w' => e = .returned (dv 0) ∧ w = w' := by
  go_enter Tryz.func133, Tryz.ntmps133
  go_wp2
  go_ret
  exact ⟨rfl, rfl⟩

/-- 'at': the group, or 0. -/
theorem at_any (B : Nat) (w : World) (v : Value) (n i : Nat) (h : IsNum B w v n) :
    Calls Tryz.prog 133 #[v, .int .i64 (i : Int)] w fun e w' => e = .returned (dv (dig n i)) ∧ w = w' := by
  obtain ⟨a, cap, rfl, hc, hr⟩ := h
  by_cases hi : i < Num.gl n
  · obtain ⟨b, o, rfl, hb, hcell⟩ := hr (fun h0 => by unfold Num.gl at hi; rw [h0] at hi; simp at hi)
    have hd : (Num.grp n)[i]? = some (dig n i) := by
      unfold dig
      rw [List.getElem?_eq_getElem (by exact hi)]; rfl
    exact at_row b o _ cap i _ w hi (hcell i _ hd)
  · rw [dig_beyond (by omega)]
    exact at_beyond a _ cap i w hi
/-- The same for a region that draws its order. -/
theorem at_quiet (B : Nat) (w : World) (v : Value) (n i : Nat) (h : IsNum B w v n) :
    Calls Tryz.prog 133 #[v, .int .i64 (i : Int)] w fun e w' => e = .returned (dv (dig n i)) ∧ w' = w :=
  (at_any B w v n i h).mono fun _ _ ⟨he, hw⟩ => ⟨he, hw.symm⟩

end Go.Proofs.YtkihodadopcioaaGreatDoor
namespace Go.Proofs.YtkihodadopcioaaGreatDoor
open Go.RowKit Go.Shelf

attribute [local go_sem] Oper.semAt_some

/-- What a round keeps: whatever lies below n₁, and the iterator's own box. -/
def KpB (n₁ Bs : Nat) (A B : World) : Prop := Below n₁ A B ∧ B.cell? ⟨Bs, 0, none⟩ = A.cell? ⟨Bs, 0, none⟩
theorem KpB.trans {n₁ Bs : Nat} {A B C : World} (h : KpB n₁ Bs A B) (k : KpB n₁ Bs B C) : KpB n₁ Bs A C := ⟨h.1.trans k.1, k.2.trans h.2⟩
theorem KpB.refl (n₁ Bs : Nat) (A : World) : KpB n₁ Bs A A := ⟨Below.refl _ _, rfl⟩
theorem KpB.put {n₁ Bs : Nat} {A : World} {l : Nat} {o : Obj} (o' : Obj) (hn : n₁ ≤ l) (hB : Bs < l) (h : A.heap[l]? = some o) : KpB n₁ Bs A (A.putObj l o') :=
  ⟨(Below.refl n₁ A).grown (grownBy_putObj' A l o') (by have := (Array.getElem?_eq_some_iff.1 h).1; omega) (fun k e => by cases e; omega), World.cell?_of_block (a := ⟨Bs, 0, none⟩) (World.putObj_heap_other (by simp; omega))⟩

set_option maxRecDepth 100000 in
set_option maxHeartbeats 2000000 in
/-- slices.Backward's closure, at a loop body that keeps the slice. -/
theorem back1_in (n : Nat) (hn : 1 ≤ n) (l Bs n₁ : Nat) (a : Option Addr) (cap : Nat) (zs : List Nat) (hlen : zs.length ≤ 1000000000) (J : Nat → World → Prop) (Jx : World → Prop)
    (hY : ∀ k d W, zs[k]? = some d → J (k + 1) W → YieldAt Fence.wide (n - 1) Tryz.prog l #[.int .i64 (k : Int), dv d] W fun e W' =>
      (e = .returned (.bool true) ∧ J k W' ∧ KpB n₁ Bs W W') ∨ (e = .returned (.bool false) ∧ Jx W'))
    (W : World) (hBs : W.cell? ⟨Bs, 0, none⟩ = some (.slice a zs.length cap)) (hr : Row n₁ W a zs) (h0 : J zs.length W) :
    CallsIn Fence.wide n Tryz.prog 156 #[.func (.yield l) #[] #[], .pointer (some ⟨Bs, 0, none⟩)] W fun e W' => (∃ v, e = .returned v) ∧ (J 0 W' ∨ Jx W') := by
  have hro : Fence.wide.round = none := rfl
  refine callsIn_of_wp Tryz.func156 rfl trivial ?_ hro
  simp only [Tryz.ntmps156, List.size_toArray, List.length_cons, List.length_nil, Nat.reduceAdd, Nat.reduceSub, Array.replicate_succ, Array.replicate_zero, List.push_toArray, List.append_toArray, List.nil_append, List.cons_append]
  gi_wp2
  gi_loopw [3] (fun i wr => ∃ k : Nat, k ≤ zs.length ∧ i = .int .i64 ((k : Int) - 1) ∧ J k wr ∧ KpB n₁ Bs W wr)
    (fun i _ => (intOf i + 1).toNat)
  case atStart => exact ⟨zs.length, Nat.le_refl _, rfl, h0, KpB.refl _ _ _⟩
  case round =>
    obtain ⟨k, hk, rfl, hJs, hnx⟩ := hrel
    cases k with
    | zero =>
      gi_wp2
      go_end0
      exact ⟨⟨_, rfl⟩, .inl hJs⟩
    | succ k =>
      obtain ⟨d, hd⟩ : ∃ d, zs[k]? = some d := ⟨zs[k]'(by omega), List.getElem?_eq_getElem _⟩
      obtain ⟨b, o, rfl, hb, hc⟩ := hr (by intro e; rw [e] at hd; simp at hd)
      have hcx : wr.cell? ⟨b, o + k, none⟩ = some (dv d) := (hnx.1.cell (p := ⟨b, o + k, none⟩) hb).trans (hc k d hd)
      have hBx : wr.cell? ⟨Bs, 0, none⟩ = some (.slice (some ⟨b, o, none⟩) zs.length cap) := hnx.2.trans hBs
      obtain ⟨fn, tmps, assign, body, hy, hR⟩ := hY k d wr hd hJs
      have GD := Lib.hid hd
      have GR := Lib.hid hR
      have e1 : ((k + 1 : Nat) : Int) - 1 = (k : Int) := by omega
      rw [e1]
      clear hd hc hr hY hBs hR e1
      gi_wp2
      refine GR.out.mono ?_
      rintro e W3 (⟨rfl, hJ3, hk3⟩ | ⟨rfl, hJx3⟩)
      · gi_wp2
        go_roundw
        case rel => exact ⟨k, by omega, rfl, hJ3, hnx.trans hk3⟩
        case measure => simp [intOf]
      · gi_wp2
        refine bodyPost_ret (results_none rfl _ _ _) rfl ?_
        exact ⟨⟨_, rfl⟩, .inr hJx3⟩

/-- The slice is boxed; the function value captures the box. -/
theorem backward_any (a : Option Addr) (len cap : Nat) (w : World) :
    Calls Tryz.prog 121 #[.slice a len cap] w fun e w' => e = .returned (.func (.func 156) #[] #[.pointer (some ⟨w.heap.size, 0, none⟩)]) ∧ w' = w.alloc (.cells #[.slice a len cap] 92) := by
  go_enter Tryz.func121, Tryz.ntmps121
  go_wp2
  go_ret
  exact ⟨rfl, rfl⟩

/-- What is said of the world abides the turn of a block that is no cells and lies from B on. -/
def Turns (B : Nat) (I : World → Prop) : Prop := ∀ W W' row, I W → W.grownBy W' row → (∀ r, row = some r → B ≤ r ∧ ∃ o : Obj, W.heap[r]? = some o ∧ o.isCells = false) → I W'
theorem Turns.put {B : Nat} {I : World → Prop} (h : Turns B I) {W : World} {l : Nat} {o : Obj} (o' : Obj) (hs : I W) (hB : B ≤ l) (hl : W.heap[l]? = some o) (ho : o.isCells = false) : I (W.putObj l o') :=
  h W _ (some l) hs (grownBy_putObj' W l o') (fun r e => by cases e; exact ⟨hB, o, hl, ho⟩)
theorem Turns.alloc {B : Nat} {I : World → Prop} (h : Turns B I) {W : World} (o : Obj) (hs : I W) : I (W.alloc o) :=
  h W _ none hs (World.grownBy_alloc W o none) (fun r e => by cases e)
theorem Turns.and {B : Nat} {I I' : World → Prop} (h : Turns B I) (h' : Turns B I') : Turns B (fun W => I W ∧ I' W) := fun W W' row hs hg hr => ⟨h W W' row hs.1 hg hr, h' W W' row hs.2 hg hr⟩
theorem Turns.const {B : Nat} {p : Prop} : Turns B (fun _ => p) := fun _ _ _ h _ _ => h
theorem Turns.boxed {B b : Nat} {t : TypeId} {v : Value} : Turns B (fun W => Boxed W b t v) := fun _ _ _ h hg hr => h.kept hg (fun e => by
  obtain ⟨_, o, ho, hc⟩ := hr b e.symm
  rw [show _ = _ from h] at ho; cases ho; cases hc)
theorem Turns.below {B n₀ : Nat} {w₀ : World} (hn : n₀ ≤ w₀.heap.size) (hB : n₀ ≤ B) : Turns B (fun W => Below n₀ w₀ W) :=
  fun _ _ _ hs hg hr => hs.grown hg (Nat.le_trans hn hs.size) (fun k e => Nat.le_trans hB (hr k e).1)

/-- How a round may be left: it goes on, or it returns. -/
def BackPost (B n₁ Bs : Nat) (I : World → Prop) (Ix : World → Prop) (W : World) : Exit → Act → World → Prop
  | .normal, _, W' => KeepsFrom B W W' ∧ KpB n₁ Bs W W' ∧ I W'
  | .ret, _, W' => KeepsFrom B W W' ∧ Ix W'
  | _, _, _ => False

/-- ONE RULE FOR A LOOP OVER slices.Backward: 'I k': k groups are still to come; 'Ix': a round has returned. -/
theorem wpIn_back {g : Operand} {ps : Array Tmp} {assign body : Code} {Q : Exit → Act → World → Prop} {a : Act} {w : World} (n : Nat) (hn : 2 ≤ n)
    (Bs n₁ : Nat) (A : Option Addr) (cap : Nat) (zs : List Nat) (hlen : zs.length ≤ 1000000000)
    (hg : a.eval g = .func (.func 156) #[] #[.pointer (some ⟨Bs, 0, none⟩)]) (hps : ps.size = 2)
    (hBs : w.cell? ⟨Bs, 0, none⟩ = some (.slice A zs.length cap)) (hn₁ : n₁ ≤ w.heap.size) (hrow : Row n₁ w A zs)
    (I : Nat → World → Prop) (Ix : World → Prop) (hI : ∀ k, Turns w.heap.size (I k)) (hIx : Turns w.heap.size Ix) (h0 : I zs.length w) (a₁ : Nat → Nat → Act)
    (hassign : ∀ (l k d : Nat) (W : World) (K : Act → World → Prop), K (a₁ k d) W →
      assign.wpIn (Fence.wide.inRound l) (n - 1 - 1) Tryz.prog (Exit.then K (fun _ _ _ => False)) { tmps := (ps.zip #[.int .i64 (k : Int), dv d]).foldl (fun t (p, v) => t.setIfInBounds p v) a.tmps, defers := [] } W)
    (hbody : ∀ (l k d : Nat) (W : World), zs[k]? = some d → I (k + 1) W → Below n₁ w W → body.wpIn (Fence.wide.inRound l) (n - 1 - 1) Tryz.prog (BackPost w.heap.size n₁ Bs (I k) Ix W) (a₁ k d) W)
    (hdone : ∀ (D : Nat) (W : World), w.heap.size ≤ D → I 0 W → W.heap[D]? = some (.deferred (some [])) → Q .normal { a with defers := { target := .collected D, args := #[] } :: a.defers } W)
    (hstop : ∀ (D : Nat) (W : World), w.heap.size ≤ D → Ix W → W.heap[D]? = some (.deferred (some [])) → Code.ret.wpIn Fence.wide n Tryz.prog Q { a with defers := { target := .collected D, args := #[] } :: a.defers } W) :
    (Code.rangeFunc g ps assign body).wpIn Fence.wide n Tryz.prog Q a w := by
  refine wpIn_rangeFunc ?_
  intro fn hfn
  obtain ⟨rec, hrec⟩ : ∃ rec : LoopState → Option Code → Loop, rec = fun st pe => { state := st, pending := pe, fn, tmps := a.tmps, params := ps, assign, body, defers := w.heap.size } := ⟨_, rfl⟩
  obtain ⟨W1, hW1⟩ : ∃ W1, (w.alloc (.deferred (some []))).alloc (.loop (rec .ready none)) = W1 := ⟨_, rfl⟩
  have hBsl : Bs < w.heap.size := World.block_lt_of_cell? w ⟨Bs, 0, none⟩ hBs
  have hL1 : W1.heap[w.heap.size + 1]? = some (.loop (rec .ready none)) := by
    rw [← hW1]; have := World.alloc_heap_new (w.alloc (.deferred (some []))) (.loop (rec .ready none)); rwa [World.size_alloc] at this
  have hK1 : W1.heap[w.heap.size]? = some (.deferred (some [])) := by
    rw [← hW1]; exact (Below.heap_alloc _ _ _ (by simp)).trans (World.alloc_heap_new w _)
  have hb1 : Below w.heap.size w W1 := by rw [← hW1]; exact ((Below.refl _ w).alloc (Nat.le_refl _) _).alloc (by simp) _
  have hI1 : I zs.length W1 := by rw [← hW1]; exact (hI _).alloc _ ((hI _).alloc _ h0)
  have e1 : ∀ args w, (callFunc 156 args).run Tryz.prog w = .ok (.enter 156 args) w := enters_of Tryz.func156 (by kernel_rfl) rfl
  refine ⟨w.heap.size + 1, [{ target := .collected w.heap.size, args := #[] }], W1, { target := .fn (.func 156) #[.pointer (some ⟨Bs, 0, none⟩)], args := #[.func (.yield (w.heap.size + 1)) #[] #[]] }, W1, 156,
    #[.func (.yield (w.heap.size + 1)) #[] #[]] ++ #[.pointer (some ⟨Bs, 0, none⟩)], W1, ?_, ?_, ?_, ?_, fun _ => by omega, ?_⟩
  · rw [← hW1, hrec]; exact run_enterLoop_outer _ _ _ _ _
  · simp only [resolve, hg]
    simp [go_sem]
  · intro f' _; exact trivial
  · simp [invoke, go_sem, e1]
  · refine (back1_in (n - 1) (by omega) (w.heap.size + 1) Bs n₁ A cap zs hlen
      (fun k W => (I k W ∧ Below n₁ w W) ∧ W.heap[w.heap.size + 1]? = some (.loop (rec .ready none)) ∧ W.heap[w.heap.size]? = some (.deferred (some [])))
      (fun W => Ix W ∧ W.heap[w.heap.size + 1]? = some (.loop (rec .done (some .ret))) ∧ W.heap[w.heap.size]? = some (.deferred (some [])))
      ?_ W1 ((hb1.cell (p := ⟨Bs, 0, none⟩) hBsl).trans hBs) (hrow.below (hb1.mono hn₁)) ⟨⟨hI1, hb1.mono hn₁⟩, hL1, hK1⟩).mono ?_
    · rintro k d W hd ⟨⟨hi, hbw⟩, hl, hk⟩
      have hlt : w.heap.size + 1 < W.heap.size := (Array.getElem?_eq_some_iff.1 hl).1
      have hy := run_yield (P := Tryz.prog) (args := #[.int .i64 (k : Int), dv d]) hl (by rw [hrec]; exact hps.symm)
      rw [hrec] at hy
      refine ⟨fn, _, assign, body, hy, roundIn_of_wpIn hfn (hassign _ k d W _ ⟨_, run_beginRound hl (by rw [hrec]), ?_⟩)⟩
      have hl2 : (W.putObj (w.heap.size + 1) (.loop { rec .ready none with state := .busy })).heap[w.heap.size + 1]? = some (.loop { rec .ready none with state := .busy }) := World.putObj_heap_same hlt
      have hk2 : (W.putObj (w.heap.size + 1) (.loop { rec .ready none with state := .busy })).heap[w.heap.size]? = some (.deferred (some [])) := (World.putObj_heap_other (by omega)).trans hk
      have hw2 : KpB n₁ Bs W (W.putObj (w.heap.size + 1) (.loop { rec .ready none with state := .busy })) := KpB.put _ (by omega) (by omega) hl
      refine wpIn_mono (hbody _ k d _ hd ((hI _).put _ hi (by omega) hl rfl) (hbw.trans hw2.1)) ?_
      have fin : ∀ (jump : Option Code) (W3 : World), KeepsFrom w.heap.size (W.putObj (w.heap.size + 1) (.loop { rec .ready none with state := .busy })) W3 →
          (Instr.endRound (w.heap.size + 1) jump).run Tryz.prog W3 = .ok (.bool jump.isNone) (W3.putObj (w.heap.size + 1) (.loop (rec (if jump.isNone then .ready else .done) jump))) ∧
          W3.heap[w.heap.size + 1]? = some (.loop { rec .ready none with state := .busy }) ∧
          (W3.putObj (w.heap.size + 1) (.loop (rec (if jump.isNone then .ready else .done) jump))).heap[w.heap.size + 1]? = some (.loop (rec (if jump.isNone then .ready else .done) jump)) ∧
          (W3.putObj (w.heap.size + 1) (.loop (rec (if jump.isNone then .ready else .done) jump))).heap[w.heap.size]? = some (.deferred (some [])) := fun jump W3 hk3 => by
        have hl3 := hk3.same _ _ (by omega) hl2 rfl
        have := run_endRound (P := Tryz.prog) jump hl3
        rw [hrec] at this ⊢
        exact ⟨this, by rw [hrec] at hl3; exact hl3, World.putObj_heap_same (Array.getElem?_eq_some_iff.1 hl3).1, (World.putObj_heap_other (by omega)).trans (hk3.same _ _ (by omega) hk2 rfl)⟩
      rintro e a3 W3 hp
      cases e with
      | normal =>
        obtain ⟨hk3, hkp3, hi3⟩ := hp
        obtain ⟨hr, hl3, hl4, hk4⟩ := fin none W3 hk3
        have hw4 : KpB n₁ Bs W3 (W3.putObj (w.heap.size + 1) (.loop (rec .ready none))) := KpB.put _ (by omega) (by omega) hl3
        exact ⟨_, _, hr, .inl ⟨rfl, ⟨⟨(hI _).put _ hi3 (by omega) hl3 rfl, ((hbw.trans hw2.1).trans hkp3.1).trans hw4.1⟩, hl4, hk4⟩, (hw2.trans hkp3).trans hw4⟩⟩
      | ret =>
        obtain ⟨hk3, hi3⟩ := hp
        obtain ⟨hr, hl3, hl4, hk4⟩ := fin (some .ret) W3 hk3
        exact ⟨_, _, hr, .inr ⟨rfl, hIx.put _ hi3 (by omega) hl3 rfl, hl4, hk4⟩⟩
      | exit id => exact hp.elim
      | goto t => exact hp.elim
      | panic ch => exact hp.elim
      | outgrown => exact hp.elim
    · rintro e W2 ⟨⟨v, rfl⟩, (⟨⟨hi, _⟩, hl, hk⟩ | ⟨hi, hl, hk⟩)⟩
      · exact ⟨none, _, by have := run_endLoop (P := Tryz.prog) hl (by rw [hrec]; simp); rw [hrec] at this; exact this, hdone _ _ (Nat.le_refl _) ((hI _).put _ hi (by omega) hl rfl) ((World.putObj_heap_other (by omega)).trans hk)⟩
      · exact ⟨some .ret, _, by have := run_endLoop (P := Tryz.prog) hl (by rw [hrec]; simp); rw [hrec] at this; exact this, hstop _ _ (Nat.le_refl _) (hIx.put _ hi (by omega) hl rfl) ((World.putObj_heap_other (by omega)).trans hk)⟩
end Go.Proofs.YtkihodadopcioaaGreatDoor
namespace Go.Proofs.YtkihodadopcioaaGreatDoor
open Go.RowKit

set_option maxHeartbeats 400000 in
theorem plus_digit (B b1 b2 i : Nat) (v1 v2 : Value) (n m : Nat) (W : World) (h1 : W.cell? ⟨b1, 0, none⟩ = some v1) (h2 : W.cell? ⟨b2, 0, none⟩ = some v2) (k1 : IsNum B W v1 n) (k2 : IsNum B W v2 m) :
    Calls Tryz.prog 132 #[.int .i64 (i : Int), .pointer (some ⟨b1, 0, none⟩), .pointer (some ⟨b2, 0, none⟩)] W fun e W' => e = .returned (.int .i64 ((dig n i : Int) + (dig m i : Int))) ∧ ∃ q, W' = W.drewN q := by
  have d1 := dig_lt n i
  have d2 := dig_lt m i
  have H1 := fun q : Nat => at_quiet B (W.drewN q) v1 n i k1
  have H2 := fun q : Nat => at_quiet B (W.drewN q) v2 m i k2
  clear k1 k2
  generalize dig n i = x at *
  generalize dig m i = y at *
  have G1 := Lib.hid H1
  have G2 := Lib.hid H2
  clear H1 H2
  go_enter Tryz.func132, Tryz.ntmps132
  go_wp2
  go_quiet (first | (go_at_call_of 133 (v1); exact Calls.quiet_of_same (G1.out _)) | (go_at_call_of 133 (v2); exact Calls.quiet_of_same (G2.out _)))
  go_wp2
  go_ret
  exact ⟨rfl, _, rfl⟩

set_option maxHeartbeats 400000 in
theorem minus_digit (B b1 b2 i : Nat) (v1 v2 : Value) (n m : Nat) (W : World) (h1 : W.cell? ⟨b1, 0, none⟩ = some v1) (h2 : W.cell? ⟨b2, 0, none⟩ = some v2) (k1 : IsNum B W v1 n) (k2 : IsNum B W v2 m) :
    Calls Tryz.prog 134 #[.int .i64 (i : Int), .pointer (some ⟨b1, 0, none⟩), .pointer (some ⟨b2, 0, none⟩)] W fun e W' => e = .returned (.int .i64 ((dig n i : Int) - (dig m i : Int))) ∧ ∃ q, W' = W.drewN q := by
  have d1 := dig_lt n i
  have d2 := dig_lt m i
  have H1 := fun q : Nat => at_quiet B (W.drewN q) v1 n i k1
  have H2 := fun q : Nat => at_quiet B (W.drewN q) v2 m i k2
  clear k1 k2
  generalize dig n i = x at *
  generalize dig m i = y at *
  have G1 := Lib.hid H1
  have G2 := Lib.hid H2
  clear H1 H2
  go_enter Tryz.func134, Tryz.ntmps134
  go_wp2
  go_quiet (first | (go_at_call_of 133 (v1); exact Calls.quiet_of_same (G1.out _)) | (go_at_call_of 133 (v2); exact Calls.quiet_of_same (G2.out _)))
  go_wp2
  go_ret
  exact ⟨rfl, _, rfl⟩

set_option maxHeartbeats 400000 in
theorem by_digit (B b1 b2 i : Nat) (v1 : Value) (n k : Nat) (W : World) (h1 : W.cell? ⟨b1, 0, none⟩ = some v1) (h2 : W.cell? ⟨b2, 0, none⟩ = some (.int .i64 (k : Int))) (hk : k < 10000) (k1 : IsNum B W v1 n) :
    Calls Tryz.prog 162 #[.int .i64 (i : Int), .pointer (some ⟨b1, 0, none⟩), .pointer (some ⟨b2, 0, none⟩)] W fun e W' => e = .returned (.int .i64 ((dig n i : Int) * (k : Int))) ∧ ∃ q, W' = W.drewN q := by
  have d1 := dig_lt n i
  have H1 := fun q : Nat => at_quiet B (W.drewN q) v1 n i k1
  clear k1
  generalize dig n i = x at *
  have G1 := Lib.hid H1
  clear H1
  have hb : x * k ≤ 9999 * 9999 := Nat.mul_le_mul (by omega) (by omega)
  have hw : IntKind.i64.wrap ((x : Int) * (k : Int)) = (x : Int) * (k : Int) := IntWalk.i64_in _ (by rw [← Int.natCast_mul]; omega)
  go_enter Tryz.func162, Tryz.ntmps162
  go_wp2
  go_quiet ((go_at_call_of 133 (v1); exact Calls.quiet_of_same (G1.out _)))
  go_wp2
  go_ret
  exact ⟨rfl, _, rfl⟩
end Go.Proofs.YtkihodadopcioaaGreatDoor
namespace Go.Proofs.YtkihodadopcioaaGreatDoor
open Go.RowKit

set_option maxHeartbeats 400000 in
theorem trimmed_at (B : Nat) (w : World) (a : Option Addr) (l : List Nat) (cap : Nat) (hd : Num.Dig l) (hcap : l.length ≤ cap) (hlen : l.length ≤ 1000000000) (h : Row B w a l) :
    Calls Tryz.prog 129 #[.slice a l.length cap] w fun e w' => (∃ k, e = .returned (.slice a k cap) ∧ IsNum B w (.slice a k cap) (Num.val l)) ∧ w = w' := by
  have HF : ∀ k, k ≤ l.length → Num.val (l.take k) = Num.val l → (k = 0 ∨ ∃ d, l[k - 1]? = some d ∧ d ≠ 0) → IsNum B w (.slice a k cap) (Num.val l) := by
    intro k hk hv hz
    have e := Num.grp_of_take hd hk hv hz
    have e2 : Num.gl (Num.val l) = k := by unfold Num.gl; rw [e, List.length_take]; omega
    exact ⟨a, cap, by rw [e2], by omega, by rw [e]; exact h.take k⟩
  have GF := Lib.hid HF
  have GV := fun k => Lib.hid (@Num.val_take_pred l k)
  clear HF hd
  obtain ⟨n, hn⟩ : ∃ n, n = l.length := ⟨_, rfl⟩
  have GN := Lib.hid hn
  rw [← hn] at hcap hlen ⊢
  clear hn
  go_enter Tryz.func129, Tryz.ntmps129
  go_wp2
  go_loopg [0] n (fun kx s wr => s = .slice a kx cap ∧ wr = w ∧ kx ≤ n ∧ Hid (Num.val (l.take kx) = Num.val l))
  case atStart => exact ⟨rfl, rfl, Nat.le_refl _, Lib.hid (by rw [GN.out, List.take_length])⟩
  case round =>
    obtain ⟨rfl, rfl, hk, HV⟩ := hrel
    by_cases h0 : 0 < gk
    · obtain ⟨d, hd⟩ : ∃ d, l[gk - 1]? = some d := ⟨l[gk - 1]'(by have := GN.out; omega), List.getElem?_eq_getElem _⟩
      obtain ⟨b, o, rfl, hb, hc⟩ := h (by intro e; rw [e] at hd; simp at hd)
      have hc1 := hc _ _ hd
      have GD := Lib.hid hd
      clear hc hd h
      by_cases hz : d = 0
      · subst hz
        go_wp2
        go_roundg (gk - 1)
        case measure => omega
        case rel => exact ⟨by go_num, rfl, by omega, Lib.hid ((GV (gk - 1)).out GD.out ▸ (by rw [show gk - 1 + 1 = gk by omega]; exact HV.out))⟩
      · have hz' : ((d : Int) == 0) = false := by simpa using hz
        go_wp2
        go_ret
        exact ⟨⟨_, rfl, GF.out gk (by have := GN.out; omega) HV.out (.inr ⟨d, GD.out, hz⟩)⟩, rfl⟩
    · obtain rfl : gk = 0 := by omega
      go_wp2
      go_ret
      exact ⟨⟨_, rfl, GF.out 0 (by omega) HV.out (.inl rfl)⟩, rfl⟩

theorem trimmed_any (B : Nat) (w : World) (a : Option Addr) (l : List Nat) (cap : Nat) (hd : Num.Dig l) (hcap : l.length ≤ cap) (hlen : l.length ≤ 1000000000) (h : Row B w a l) :
    Calls Tryz.prog 129 #[.slice a l.length cap] w fun e w' => (∃ v, e = .returned v ∧ IsNum B w v (Num.val l)) ∧ w = w' :=
  (trimmed_at B w a l cap hd hcap hlen h).mono fun _ _ ⟨⟨_, he, hn⟩, hw⟩ => ⟨⟨_, he, hn⟩, hw⟩

/-- The same, where the row lies in a block from L on. -/
theorem trimmed_new (L B : Nat) (w : World) (a : Option Addr) (l : List Nat) (cap : Nat) (hd : Num.Dig l) (hcap : l.length ≤ cap) (hlen : l.length ≤ 1000000000) (h : Row B w a l) (hf : Frs L a l) :
    Calls Tryz.prog 129 #[.slice a l.length cap] w fun e w' => (∃ v, e = .returned v ∧ IsNew L B w v (Num.val l)) ∧ w = w' := by
  refine (trimmed_at B w a l cap hd hcap hlen h).mono ?_
  rintro e w' ⟨⟨k, he, a', cap', hv, hc, hr⟩, hw⟩
  injection hv with h1 h2 h3
  subst h1
  refine ⟨⟨_, he, a, cap', ?_, hc, hr, fun hl p hp => hf (fun e0 => ?_) p hp⟩, hw⟩
  · rw [h2, h3]
  · subst e0
    exact hl Num.grp_zero
end Go.Proofs.YtkihodadopcioaaGreatDoor
namespace Go.Proofs.YtkihodadopcioaaGreatDoor
open Go.RowKit

theorem int_info : (Tryz.prog.info? 3).map (fun i => (i.zero, i.size, i.bytes)) = some (some (.int .i64 0), 1, 8) := by kernel_rfl

/-- A row of the call's own reads as its groups. -/
theorem row_of_own {w : World} {base e n : Nat} {v : Value} {l : List Nat} (h : w.ownsRow base e 1 v n (l.map dv)) :
    ∃ a cap, v = .slice a l.length cap ∧ l.length ≤ cap ∧ Row w.heap.size w a l ∧ Frs base a l := by
  have hn : l.length = n := by have := h.1; simpa using this
  rcases h.2 with ⟨rfl, h0⟩ | ⟨g, cap, cur, rfl, hg, hh, hcap, _⟩
  · have : l = [] := List.eq_nil_of_length_eq_zero (by omega)
    subst this
    exact ⟨none, 0, rfl, Nat.le_refl _, Row.nil, fun h => absurd rfl h⟩
  · refine ⟨some ⟨g, 0, none⟩, cap, by rw [hn], by omega, fun _ => ⟨g, 0, rfl, (Array.getElem?_eq_some_iff.1 hh).1, fun j d hd => ?_⟩, fun _ p hp => by cases hp; exact hg⟩
    have hc := h.cells (g := g) rfl j (dv d) (by rw [List.getElem?_map, hd]; rfl)
    rw [Nat.zero_add]
    have hadd : (⟨g, 0, none⟩ : Addr).add j = ⟨g, j, none⟩ := by
      unfold Addr.add
      split <;> simp_all
    rwa [hadd] at hc

theorem fold_next {w wr w2 : World} {q k r : Nat} {o : List Nat} {u v' : Value} {X : Obj} {s : Int} (hbr : Below w.heap.size w wr) (hown : wr.ownsRow w.heap.size 3 1 u k (o.map dv))
    (hown' : w2.ownsRow w.heap.size 3 1 v' (k + 1) (o.map dv ++ [.int .i64 s])) (hg : ((wr.drewN q).alloc X).grownBy w2 u.ownBlock) (hr : s = (r : Int)) :
    w2.ownsRow w.heap.size 3 1 v' (k + 1) ((o ++ [r]).map dv) ∧ Below w.heap.size w w2 := by
  subst hr
  refine ⟨by simpa using hown', ?_⟩
  have hb : Below w.heap.size w ((wr.drewN q).alloc X) := Below.alloc (w := wr.drewN q) ⟨hbr.os, hbr.tape, hbr.output, hbr.size, hbr.block⟩ hbr.size X
  exact hb.grown hg hb.size (fun j hj => (hown.lt j hj).1)

set_option maxRecDepth 100000 in
set_option maxHeartbeats 1000000 in
theorem fold_any (w : World) (g : Nat) (cb : Array Value) (n : Nat) (dg : Nat → Int) (hn : n ≤ 1000000000)
    (eg : ∀ args w, (callFunc g args).run Tryz.prog w = .ok (.enter g args) w)
    (hd : ∀ (i : Nat) (W : World), i ≤ n → Below w.heap.size w W → Calls Tryz.prog g (#[.int .i64 (i : Int)] ++ cb) W fun e W' => e = .returned (.int .i64 (dg i)) ∧ ∃ q, W' = W.drewN q)
    (hb1 : ∀ i, -9999 ≤ dg i) (hb2 : ∀ i, dg i ≤ 99980001) (hz : ∀ i, n ≤ i → dg i = 0) (ht : 0 ≤ Num.tot dg 0 n) :
    Calls Tryz.prog 131 #[.int .i64 (n : Int), .int .i64 0, .func (.func g) #[] cb] w fun e w' =>
      ∃ a l cap, e = .returned (.slice a l.length cap) ∧ Num.Dig l ∧ l.length ≤ cap ∧ l.length ≤ n + 1 ∧ (Num.val l : Int) = Num.tot dg 0 n ∧ Row w'.heap.size w' a l ∧ Frs w.heap.size a l ∧ Below w.heap.size w w' := by
  obtain ⟨i0, hi, hz0, hz1, hz2⟩ := info_parts int_info
  have GD := Lib.hid hd
  have G1 := Lib.hid hb1
  have G2 := Lib.hid hb2
  have GS := fun i c c' o r => Lib.hid (@Num.FoldInv.step dg n i c c' o r)
  have GZ := Lib.hid hz
  have GT := Lib.hid ht
  clear hd hb1 hb2 hz ht
  go_enter Tryz.func131, Tryz.ntmps131
  go_wp2_with (at_make; refine wpList_make_own _ rfl _ _ 92 rfl w.heap.size 3 i0 (.int .i64 0) 1 Tryz.underlying92 hi hz0 hz1 _ _ _ (n + 1) rfl rfl (by omega) ?b2 ?b3 (Nat.le_refl _) ?_)
  case b2 => rw [hz2]; omega
  case b3 => unfold maxLen; omega
  intro w1 hown hg
  have hbw : Below w.heap.size w w1 := (Below.refl _ _).grown hg (Nat.le_refl _) (by simp)
  go_wp2
  go_loopg [1, 7, 8] (n + 2) (fun kx c v i wr => ∃ (k : Nat) (cc : Int) (o : List Nat), c = .int .i64 cc ∧ i = .int .i64 k ∧ kx = n + 2 - k ∧ wr.ownsRow w.heap.size 3 1 v k (o.map dv) ∧ Below w.heap.size w wr ∧ Hid (Num.FoldInv dg n k cc o))
  case atStart => exact ⟨0, 0, [], rfl, rfl, rfl, hown, hbw, Lib.hid (Num.FoldInv.start dg n)⟩
  case round =>
    obtain ⟨k, cc, o, rfl, rfl, hkx, hown, hbr, HI⟩ := hrel
    have hk1 : k ≤ n + 1 := HI.out.2.2.1
    have hc1 : -1 ≤ cc := HI.out.2.2.2.1
    have hc2 : cc ≤ 9999 := HI.out.2.2.2.2.1
    by_cases hgo : k < n ∨ cc ≠ 0
    · have hkn : k ≤ n := by
        rcases hgo with h | h
        · omega
        · by_cases h8 : n + 1 ≤ k
          · exact absurd (HI.out.2.2.2.2.2.1 h8) h
          · omega
      have hcall := GD.out k wr hkn hbr
      have hx1 := G1.out k
      have hx2 := G2.out k
      have HS := fun c' r => GS k cc c' o r
      have HZ := Lib.hid (GZ.out k)
      obtain ⟨x, hx⟩ : ∃ x, x = dg k := ⟨_, rfl⟩
      rw [← hx] at hcall hx1 hx2
      have GX := Lib.hid hx.symm
      have GC := Lib.hid hcall
      have GO := Lib.hid hgo
      clear hcall hx hgo
      rcases (show k < n ∨ (¬ k < n ∧ (cc != 0) = true) from (by by_cases h : k < n; · exact .inl h
                                                                 · exact .inr ⟨h, by simpa using GO.out.resolve_left h⟩)) with hkn' | ⟨hkn', hcc⟩
      · rcases (show x + cc < 0 ∨ (¬ x + cc < 0 ∧ x + cc < 10000) ∨ (10000 ≤ x + cc) by omega) with hs1 | ⟨hs1, hs2⟩ | hs2
        · go_wp2_with fail
          refine GC.out.mono ?_
          rintro e w' ⟨rfl, q, rfl⟩
          go_wp2_with ((at_builtin; refine wpList_append_own _ rfl _ _ 92 rfl w.heap.size 3 i0 (.int .i64 0) 1 8 Tryz.underlying92 hi hz0 hz1 hz2 rfl (by decide) _ _ _ rfl (hown.alloc _) ⟨wr.heap.size, 0, none⟩ 1 1 [.int .i64 (x + cc + 10000)] rfl rfl (cell_one_new _ _ _) (by simp [Value.oneCell']) (by unfold maxLen; omega) (by omega) (by have := hbr.size; simp; omega) ?_))
          intro v' w2 hown' hgrow _
          have R := fold_next (r := (x + cc + 10000).toNat) hbr hown hown' hgrow (by omega)
          clear hown' hgrow hown
          go_wp2
          go_roundg (n + 2 - (k + 1))
          case measure => omega
          case rel => exact ⟨k + 1, -1, o ++ [(x + cc + 10000).toNat], rfl, by go_num, rfl, R.1, R.2, Lib.hid ((HS _ _).out HI.out HZ.out GT.out GO.out (by rw [GX.out]; omega) (by omega) (by omega) (by omega))⟩
        · go_wp2_with fail
          refine GC.out.mono ?_
          rintro e w' ⟨rfl, q, rfl⟩
          go_wp2_with ((at_builtin; refine wpList_append_own _ rfl _ _ 92 rfl w.heap.size 3 i0 (.int .i64 0) 1 8 Tryz.underlying92 hi hz0 hz1 hz2 rfl (by decide) _ _ _ rfl (hown.alloc _) ⟨wr.heap.size, 0, none⟩ 1 1 [.int .i64 (x + cc)] rfl rfl (cell_one_new _ _ _) (by simp [Value.oneCell']) (by unfold maxLen; omega) (by omega) (by have := hbr.size; simp; omega) ?_))
          intro v' w2 hown' hgrow _
          have R := fold_next (r := (x + cc).toNat) hbr hown hown' hgrow (by omega)
          clear hown' hgrow hown
          go_wp2
          go_roundg (n + 2 - (k + 1))
          case measure => omega
          case rel => exact ⟨k + 1, 0, o ++ [(x + cc).toNat], rfl, by go_num, rfl, R.1, R.2, Lib.hid ((HS _ _).out HI.out HZ.out GT.out GO.out (by rw [GX.out]; omega) (by omega) (by omega) (by omega))⟩
        · go_wp2_with fail
          refine GC.out.mono ?_
          rintro e w' ⟨rfl, q, rfl⟩
          go_wp2_with ((at_builtin; refine wpList_append_own _ rfl _ _ 92 rfl w.heap.size 3 i0 (.int .i64 0) 1 8 Tryz.underlying92 hi hz0 hz1 hz2 rfl (by decide) _ _ _ rfl (hown.alloc _) ⟨wr.heap.size, 0, none⟩ 1 1 [.int .i64 ((x + cc) % 10000)] rfl rfl (cell_one_new _ _ _) (by simp [Value.oneCell']) (by unfold maxLen; omega) (by omega) (by have := hbr.size; simp; omega) ?_))
          intro v' w2 hown' hgrow _
          have R := fold_next (r := ((x + cc) % 10000).toNat) hbr hown hown' hgrow (by omega)
          clear hown' hgrow hown
          go_wp2
          go_roundg (n + 2 - (k + 1))
          case measure => omega
          case rel => exact ⟨k + 1, (x + cc) / 10000, o ++ [((x + cc) % 10000).toNat], rfl, by go_num, rfl, R.1, R.2, Lib.hid ((HS _ _).out HI.out HZ.out GT.out GO.out (by rw [GX.out]; omega) (by omega) (by omega) (by omega))⟩
      · rcases (show x + cc < 0 ∨ (¬ x + cc < 0 ∧ x + cc < 10000) ∨ (10000 ≤ x + cc) by omega) with hs1 | ⟨hs1, hs2⟩ | hs2
        · go_wp2_with fail
          refine GC.out.mono ?_
          rintro e w' ⟨rfl, q, rfl⟩
          go_wp2_with ((at_builtin; refine wpList_append_own _ rfl _ _ 92 rfl w.heap.size 3 i0 (.int .i64 0) 1 8 Tryz.underlying92 hi hz0 hz1 hz2 rfl (by decide) _ _ _ rfl (hown.alloc _) ⟨wr.heap.size, 0, none⟩ 1 1 [.int .i64 (x + cc + 10000)] rfl rfl (cell_one_new _ _ _) (by simp [Value.oneCell']) (by unfold maxLen; omega) (by omega) (by have := hbr.size; simp; omega) ?_))
          intro v' w2 hown' hgrow _
          have R := fold_next (r := (x + cc + 10000).toNat) hbr hown hown' hgrow (by omega)
          clear hown' hgrow hown
          go_wp2
          go_roundg (n + 2 - (k + 1))
          case measure => omega
          case rel => exact ⟨k + 1, -1, o ++ [(x + cc + 10000).toNat], rfl, by go_num, rfl, R.1, R.2, Lib.hid ((HS _ _).out HI.out HZ.out GT.out GO.out (by rw [GX.out]; omega) (by omega) (by omega) (by omega))⟩
        · go_wp2_with fail
          refine GC.out.mono ?_
          rintro e w' ⟨rfl, q, rfl⟩
          go_wp2_with ((at_builtin; refine wpList_append_own _ rfl _ _ 92 rfl w.heap.size 3 i0 (.int .i64 0) 1 8 Tryz.underlying92 hi hz0 hz1 hz2 rfl (by decide) _ _ _ rfl (hown.alloc _) ⟨wr.heap.size, 0, none⟩ 1 1 [.int .i64 (x + cc)] rfl rfl (cell_one_new _ _ _) (by simp [Value.oneCell']) (by unfold maxLen; omega) (by omega) (by have := hbr.size; simp; omega) ?_))
          intro v' w2 hown' hgrow _
          have R := fold_next (r := (x + cc).toNat) hbr hown hown' hgrow (by omega)
          clear hown' hgrow hown
          go_wp2
          go_roundg (n + 2 - (k + 1))
          case measure => omega
          case rel => exact ⟨k + 1, 0, o ++ [(x + cc).toNat], rfl, by go_num, rfl, R.1, R.2, Lib.hid ((HS _ _).out HI.out HZ.out GT.out GO.out (by rw [GX.out]; omega) (by omega) (by omega) (by omega))⟩
        · go_wp2_with fail
          refine GC.out.mono ?_
          rintro e w' ⟨rfl, q, rfl⟩
          go_wp2_with ((at_builtin; refine wpList_append_own _ rfl _ _ 92 rfl w.heap.size 3 i0 (.int .i64 0) 1 8 Tryz.underlying92 hi hz0 hz1 hz2 rfl (by decide) _ _ _ rfl (hown.alloc _) ⟨wr.heap.size, 0, none⟩ 1 1 [.int .i64 ((x + cc) % 10000)] rfl rfl (cell_one_new _ _ _) (by simp [Value.oneCell']) (by unfold maxLen; omega) (by omega) (by have := hbr.size; simp; omega) ?_))
          intro v' w2 hown' hgrow _
          have R := fold_next (r := ((x + cc) % 10000).toNat) hbr hown hown' hgrow (by omega)
          clear hown' hgrow hown
          go_wp2
          go_roundg (n + 2 - (k + 1))
          case measure => omega
          case rel => exact ⟨k + 1, (x + cc) / 10000, o ++ [((x + cc) % 10000).toNat], rfl, by go_num, rfl, R.1, R.2, Lib.hid ((HS _ _).out HI.out HZ.out GT.out GO.out (by rw [GX.out]; omega) (by omega) (by omega) (by omega))⟩
    · have hkn' : ¬ k < n := fun h => hgo (.inl h)
      obtain rfl : cc = 0 := by
        by_cases h : cc = 0
        · exact h
        · exact absurd (.inr h) hgo
      go_wp2
      go_ret
      obtain ⟨a, cap, hv, hcap, hrow, hfr⟩ := row_of_own hown
      exact ⟨a, o, cap, by rw [hv]; rfl, HI.out.2.1, hcap, by have := HI.out.1; omega, HI.out.done (by omega), hrow, hfr, hbr⟩
end Go.Proofs.YtkihodadopcioaaGreatDoor
namespace Go.Proofs.YtkihodadopcioaaGreatDoor
open Go.RowKit

theorem tot_dig {a n : Nat} (h : Num.gl a ≤ n) : Num.tot (fun i => (dig a i : Int)) 0 n = a := by
  have := Num.tot_list (Num.grp a) n h
  rw [Num.val_grp] at this
  exact this

/-- The call of a closure: the machine enters it. -/
theorem enters_plus1 : ∀ args w, (callFunc 132 args).run Tryz.prog w = .ok (.enter 132 args) w := enters_of Tryz.func132 (by kernel_rfl) rfl
theorem enters_minus1 : ∀ args w, (callFunc 134 args).run Tryz.prog w = .ok (.enter 134 args) w := enters_of Tryz.func134 (by kernel_rfl) rfl
theorem enters_by1 : ∀ args w, (callFunc 162 args).run Tryz.prog w = .ok (.enter 162 args) w := enters_of Tryz.func162 (by kernel_rfl) rfl

/-- Two values boxed: the world ahead of the fold. -/
def boxes2 (w : World) (v1 v2 : Value) (t1 t2 : Nat) : World := (w.alloc (.cells #[v1] t1)).alloc (.cells #[v2] t2)
theorem size_boxes2 (w : World) (v1 v2 : Value) (t1 t2 : Nat) : (boxes2 w v1 v2 t1 t2).heap.size = w.heap.size + 2 := by unfold boxes2; simp
theorem below_boxes2 (w : World) (v1 v2 : Value) (t1 t2 : Nat) : Below w.heap.size w (boxes2 w v1 v2 t1 t2) := ((Below.refl _ _).alloc (Nat.le_refl _) _).alloc (by simp) _
theorem cell_boxes2 (w : World) (v1 v2 : Value) (t1 t2 : Nat) : (boxes2 w v1 v2 t1 t2).cell? ⟨w.heap.size, 0, none⟩ = some v1 ∧ (boxes2 w v1 v2 t1 t2).cell? ⟨w.heap.size + 1, 0, none⟩ = some v2 := by
  unfold boxes2
  constructor
  · rw [World.cell?_alloc_past _ _ _ (by simp), World.cell?_alloc_at _ _ _ _ rfl]; rfl
  · rw [World.cell?_alloc_at _ _ _ _ (by simp)]; rfl

/-- What a fold over two boxes comes to: groups that stand for T. -/
def FoldsTo (g n : Nat) (w : World) (v1 v2 : Value) (t1 t2 T : Nat) : Prop :=
  Calls Tryz.prog 131 #[.int .i64 (n : Int), .int .i64 0, .func (.func g) #[] #[.pointer (some ⟨w.heap.size, 0, none⟩), .pointer (some ⟨w.heap.size + 1, 0, none⟩)]] (boxes2 w v1 v2 t1 t2) fun e w' =>
    ∃ a l cap, e = .returned (.slice a l.length cap) ∧ Num.Dig l ∧ l.length ≤ cap ∧ l.length ≤ 1000000000 ∧ Num.val l = T ∧ Row w'.heap.size w' a l ∧ Frs w.heap.size a l ∧ Below w.heap.size w w'

theorem folds_to (g n : Nat) (w : World) (v1 v2 : Value) (t1 t2 T : Nat) (dg : Nat → Int) (hn : n ≤ 100000000)
    (eg : ∀ args w, (callFunc g args).run Tryz.prog w = .ok (.enter g args) w)
    (hd : ∀ (i : Nat) (W : World), W.cell? ⟨w.heap.size, 0, none⟩ = some v1 → W.cell? ⟨w.heap.size + 1, 0, none⟩ = some v2 → Below w.heap.size w W →
      Calls Tryz.prog g #[.int .i64 (i : Int), .pointer (some ⟨w.heap.size, 0, none⟩), .pointer (some ⟨w.heap.size + 1, 0, none⟩)] W fun e W' => e = .returned (.int .i64 (dg i)) ∧ ∃ q, W' = W.drewN q)
    (hb1 : ∀ i, -9999 ≤ dg i) (hb2 : ∀ i, dg i ≤ 99980001) (hz : ∀ i, n ≤ i → dg i = 0) (ht : Num.tot dg 0 n = T) : FoldsTo g n w v1 v2 t1 t2 T := by
  have hB := below_boxes2 w v1 v2 t1 t2
  have hC := cell_boxes2 w v1 v2 t1 t2
  have hS := size_boxes2 w v1 v2 t1 t2
  have HF := fold_any (boxes2 w v1 v2 t1 t2) g #[.pointer (some ⟨w.heap.size, 0, none⟩), .pointer (some ⟨w.heap.size + 1, 0, none⟩)] n dg (by omega) eg
    (fun i W _ hW => hd i W ((hW.cell (p := ⟨w.heap.size, 0, none⟩) (by rw [hS]; simp)).trans hC.1) ((hW.cell (p := ⟨w.heap.size + 1, 0, none⟩) (by rw [hS]; simp)).trans hC.2) (hB.trans (hW.mono (by omega)))) hb1 hb2 hz (by omega)
  refine HF.mono ?_
  rintro e w' ⟨a, l, cap, he, h1, h2, h3, h4, h5, h7, h6⟩
  exact ⟨a, l, cap, he, h1, h2, by omega, by omega, h5, fun hl p hp => Nat.le_trans (by omega) (h7 hl p hp), hB.trans (h6.mono (by omega))⟩

set_option maxHeartbeats 400000 in
theorem plus_walk (w : World) (c1 c2 la lb m : Nat) (a1 a2 : Option Addr) (T : Nat) (hm : Hid (m = max la lb))
    (HF : Hid (FoldsTo 132 m w (.slice a1 la c1) (.slice a2 lb c2) 92 92 T)) :
    Calls Tryz.prog 79 #[.slice a1 la c1, .slice a2 lb c2] w fun e w' => (∃ v, e = .returned v ∧ IsNum w'.heap.size w' v T) ∧ Below w.heap.size w w' := by
  by_cases hle : la < lb
  · obtain rfl : m = lb := by have := hm.out; omega
    go_enter Tryz.func79, Tryz.ntmps79
    go_wp2_with fail
    refine HF.out.mono ?_
    rintro e w1 ⟨a, l, cap, rfl, hd, hcap, hlen, hT, hrow, hfr, hb⟩
    have GB := Lib.hid hb
    have GT := Lib.hid hT
    have HT := Lib.hid (trimmed_any w1.heap.size w1 a l cap hd hcap hlen hrow)
    clear hb hT hd hcap hlen hrow hfr
    go_wp2_with fail
    refine HT.out.mono ?_
    rintro e w2 ⟨⟨v, rfl, hv⟩, rfl⟩
    have GV := Lib.hid hv
    clear hv
    go_wp2
    go_ret
    exact ⟨⟨v, rfl, GT.out ▸ GV.out⟩, GB.out⟩
  · obtain rfl : m = la := by have := hm.out; omega
    go_enter Tryz.func79, Tryz.ntmps79
    go_wp2_with fail
    refine HF.out.mono ?_
    rintro e w1 ⟨a, l, cap, rfl, hd, hcap, hlen, hT, hrow, hfr, hb⟩
    have GB := Lib.hid hb
    have GT := Lib.hid hT
    have HT := Lib.hid (trimmed_any w1.heap.size w1 a l cap hd hcap hlen hrow)
    clear hb hT hd hcap hlen hrow hfr
    go_wp2_with fail
    refine HT.out.mono ?_
    rintro e w2 ⟨⟨v, rfl, hv⟩, rfl⟩
    have GV := Lib.hid hv
    clear hv
    go_wp2
    go_ret
    exact ⟨⟨v, rfl, GT.out ▸ GV.out⟩, GB.out⟩

theorem plus_any (w : World) (v1 v2 : Value) (a b : Nat) (ha : Num.gl a ≤ 10000000) (hb : Num.gl b ≤ 10000000) (h1 : IsNum w.heap.size w v1 a) (h2 : IsNum w.heap.size w v2 b) :
    Calls Tryz.prog 79 #[v1, v2] w fun e w' => (∃ v, e = .returned v ∧ IsNum w'.heap.size w' v (a + b)) ∧ Below w.heap.size w w' := by
  have HF : FoldsTo 132 (max (Num.gl a) (Num.gl b)) w v1 v2 92 92 (a + b) :=
    folds_to _ _ w v1 v2 _ _ _ (fun i => (dig a i : Int) + (dig b i : Int)) (by omega) enters_plus1 (fun i W c1 c2 hW => plus_digit w.heap.size _ _ i v1 v2 a b W c1 c2 (h1.below hW) (h2.below hW))
      (fun i => by have := dig_lt a i; have := dig_lt b i; omega) (fun i => by have := dig_lt a i; have := dig_lt b i; omega)
      (fun i hi => by rw [dig_beyond (show Num.gl a ≤ i by omega), dig_beyond (show Num.gl b ≤ i by omega)]; rfl)
      (by rw [Num.tot_add, tot_dig (Nat.le_max_left _ _), tot_dig (Nat.le_max_right _ _)]; omega)
  obtain ⟨a1, c1, rfl, hc1, r1⟩ := h1
  obtain ⟨a2, c2, rfl, hc2, r2⟩ := h2
  exact plus_walk w c1 c2 _ _ _ a1 a2 _ (Lib.hid rfl) (Lib.hid HF)

set_option maxHeartbeats 400000 in
theorem minus_walk (w : World) (c1 c2 la lb : Nat) (a1 a2 : Option Addr) (T : Nat)
    (HF : Hid (FoldsTo 134 la w (.slice a1 la c1) (.slice a2 lb c2) 92 92 T)) :
    Calls Tryz.prog 81 #[.slice a1 la c1, .slice a2 lb c2] w fun e w' => (∃ v, e = .returned v ∧ IsNew w.heap.size w'.heap.size w' v T) ∧ Below w.heap.size w w' := by
    go_enter Tryz.func81, Tryz.ntmps81
    go_wp2_with fail
    refine HF.out.mono ?_
    rintro e w1 ⟨a, l, cap, rfl, hd, hcap, hlen, hT, hrow, hfr, hb⟩
    have GB := Lib.hid hb
    have GT := Lib.hid hT
    have HT := Lib.hid (trimmed_new w.heap.size w1.heap.size w1 a l cap hd hcap hlen hrow hfr)
    clear hb hT hd hcap hlen hrow hfr
    go_wp2_with fail
    refine HT.out.mono ?_
    rintro e w2 ⟨⟨v, rfl, hv⟩, rfl⟩
    have GV := Lib.hid hv
    clear hv
    go_wp2
    go_ret
    exact ⟨⟨v, rfl, GT.out ▸ GV.out⟩, GB.out⟩

theorem minus_new (w : World) (v1 v2 : Value) (a b : Nat) (ha : Num.gl a ≤ 10000000) (hab : b ≤ a) (h1 : IsNum w.heap.size w v1 a) (h2 : IsNum w.heap.size w v2 b) :
    Calls Tryz.prog 81 #[v1, v2] w fun e w' => (∃ v, e = .returned v ∧ IsNew w.heap.size w'.heap.size w' v (a - b)) ∧ Below w.heap.size w w' := by
  have hl := Num.gl_mono hab
  have HF : FoldsTo 134 (Num.gl a) w v1 v2 92 92 (a - b) :=
    folds_to _ _ w v1 v2 _ _ _ (fun i => (dig a i : Int) - (dig b i : Int)) (by omega) enters_minus1 (fun i W c1 c2 hW => minus_digit w.heap.size _ _ i v1 v2 a b W c1 c2 (h1.below hW) (h2.below hW))
      (fun i => by have := dig_lt a i; have := dig_lt b i; omega) (fun i => by have := dig_lt a i; have := dig_lt b i; omega)
      (fun i hi => by rw [dig_beyond (show Num.gl a ≤ i by omega), dig_beyond (show Num.gl b ≤ i by omega)]; rfl)
      (by rw [Num.tot_sub, tot_dig (Nat.le_refl _), tot_dig hl]; omega)
  obtain ⟨a1, c1, rfl, hc1, r1⟩ := h1
  obtain ⟨a2, c2, rfl, hc2, r2⟩ := h2
  exact minus_walk w c1 c2 _ _ a1 a2 _ (Lib.hid HF)
theorem minus_any (w : World) (v1 v2 : Value) (a b : Nat) (ha : Num.gl a ≤ 10000000) (hab : b ≤ a) (h1 : IsNum w.heap.size w v1 a) (h2 : IsNum w.heap.size w v2 b) :
    Calls Tryz.prog 81 #[v1, v2] w fun e w' => (∃ v, e = .returned v ∧ IsNum w'.heap.size w' v (a - b)) ∧ Below w.heap.size w w' :=
  (minus_new w v1 v2 a b ha hab h1 h2).mono fun _ _ ⟨⟨v, he, hn⟩, hw⟩ => ⟨⟨v, he, hn.num⟩, hw⟩

set_option maxHeartbeats 400000 in
theorem by_walk (w : World) (c1 la k : Nat) (a1 : Option Addr) (T : Nat)
    (HF : Hid (FoldsTo 162 la w (.slice a1 la c1) (.int .i64 (k : Int)) 92 3 T)) :
    Calls Tryz.prog 125 #[.slice a1 la c1, .int .i64 (k : Int)] w fun e w' => (∃ v, e = .returned v ∧ IsNum w'.heap.size w' v T) ∧ Below w.heap.size w w' := by
    go_enter Tryz.func125, Tryz.ntmps125
    go_wp2_with fail
    refine HF.out.mono ?_
    rintro e w1 ⟨a, l, cap, rfl, hd, hcap, hlen, hT, hrow, hfr, hb⟩
    have GB := Lib.hid hb
    have GT := Lib.hid hT
    have HT := Lib.hid (trimmed_any w1.heap.size w1 a l cap hd hcap hlen hrow)
    clear hb hT hd hcap hlen hrow hfr
    go_wp2_with fail
    refine HT.out.mono ?_
    rintro e w2 ⟨⟨v, rfl, hv⟩, rfl⟩
    have GV := Lib.hid hv
    clear hv
    go_wp2
    go_ret
    exact ⟨⟨v, rfl, GT.out ▸ GV.out⟩, GB.out⟩

theorem by_any (w : World) (v1 : Value) (a k : Nat) (ha : Num.gl a ≤ 10000000) (hk : k < 10000) (h1 : IsNum w.heap.size w v1 a) :
    Calls Tryz.prog 125 #[v1, .int .i64 (k : Int)] w fun e w' => (∃ v, e = .returned v ∧ IsNum w'.heap.size w' v (a * k)) ∧ Below w.heap.size w w' := by
  have HF : FoldsTo 162 (Num.gl a) w v1 (.int .i64 (k : Int)) 92 3 (a * k) :=
    folds_to _ _ w v1 _ _ _ _ (fun i => (dig a i : Int) * (k : Int)) (by omega) enters_by1 (fun i W c1 c2 hW => by_digit w.heap.size _ _ i v1 a k W c1 c2 hk (h1.below hW))
      (fun i => by have := Int.mul_nonneg (Int.natCast_nonneg (dig a i)) (Int.natCast_nonneg k); omega)
      (fun i => by have : dig a i * k ≤ 9999 * 9999 := Nat.mul_le_mul (Nat.le_of_lt_succ (dig_lt a i)) (Nat.le_of_lt_succ hk); rw [← Int.natCast_mul]; omega)
      (fun i hi => by rw [dig_beyond hi]; simp)
      (by rw [Num.tot_mul, tot_dig (Nat.le_refl _), Int.natCast_mul])
  obtain ⟨a1, c1, rfl, hc1, r1⟩ := h1
  exact by_walk w c1 _ k a1 _ (Lib.hid HF)
end Go.Proofs.YtkihodadopcioaaGreatDoor
namespace Go.Proofs.YtkihodadopcioaaGreatDoor
open Go.RowKit Go.Shelf

attribute [local go_sem] Oper.semAt_some

/-- -1, 0 or 1. -/
def sgn (x y : Int) : Int := if x < y then -1 else if y < x then 1 else 0
theorem sgn_lt {x y : Int} (h : x < y) : sgn x y = -1 := by unfold sgn; rw [if_pos h]
theorem sgn_gt {x y : Int} (h : y < x) : sgn x y = 1 := by unfold sgn; rw [if_neg (by omega), if_pos h]
theorem sgn_eq {x y : Int} (h : x = y) : sgn x y = 0 := by unfold sgn; rw [if_neg (by omega), if_neg (by omega)]

set_option maxHeartbeats 400000 in
theorem cmp_lt (x y : Int) (w : World) (h : x < y) : Calls Tryz.prog 126 #[.int .i64 x, .int .i64 y] w fun e w' => e = .returned (.int .i64 (-1)) ∧ w = w' := by
  go_enter Tryz.func126, Tryz.ntmps126
  go_wp2
  go_ret
  exact ⟨rfl, rfl⟩
set_option maxHeartbeats 400000 in
theorem cmp_gt (x y : Int) (w : World) (h : y < x) : Calls Tryz.prog 126 #[.int .i64 x, .int .i64 y] w fun e w' => e = .returned (.int .i64 1) ∧ w = w' := by
  go_enter Tryz.func126, Tryz.ntmps126
  go_wp2
  go_ret
  exact ⟨rfl, rfl⟩
set_option maxHeartbeats 400000 in
theorem cmp_eq (x : Int) (w : World) : Calls Tryz.prog 126 #[.int .i64 x, .int .i64 x] w fun e w' => e = .returned (.int .i64 0) ∧ w = w' := by
  go_enter Tryz.func126, Tryz.ntmps126
  go_wp2
  go_ret
  exact ⟨rfl, rfl⟩
theorem cmp_any (x y : Int) (w : World) : Calls Tryz.prog 126 #[.int .i64 x, .int .i64 y] w fun e w' => e = .returned (.int .i64 (sgn x y)) ∧ w = w' := by
  rcases Int.lt_trichotomy x y with h | h | h
  · rw [sgn_lt h]; exact cmp_lt x y w h
  · subst h; rw [sgn_eq rfl]; exact cmp_eq x w
  · rw [sgn_gt h]; exact cmp_gt x y w h

theorem sgn_cast (x y : Nat) : sgn (x : Int) (y : Int) = if x < y then -1 else if y < x then 1 else 0 := by
  unfold sgn
  by_cases h : x < y
  · rw [if_pos h, if_pos (by omega)]
  · rw [if_neg h, if_neg (by omega)]
    by_cases h' : y < x
    · rw [if_pos h', if_pos (by omega)]
    · rw [if_neg h', if_neg (by omega)]

set_option maxRecDepth 100000 in
set_option maxHeartbeats 1000000 in
theorem compare_lens (a1 a2 : Option Addr) (l1 l2 c1 c2 : Nat) (w : World) (h : l1 ≠ l2) :
    Calls Tryz.prog 72 #[.slice a1 l1 c1, .slice a2 l2 c2] w fun e w' => e = .returned (.int .i64 (sgn l1 l2)) ∧ Below w.heap.size w w' := by
  have hne : ((l1 : Int) != (l2 : Int)) = true := by rw [bne_iff_ne]; omega
  have hne2 : (l1 != l2) = true := by simpa using h
  have HC := fun W => Lib.hid (cmp_any l1 l2 W)
  go_enter Tryz.func72, Tryz.ntmps72
  go_wp2_with fail
  refine (HC _).out.mono ?_
  rintro e w' ⟨rfl, rfl⟩
  go_wp2
  refine bodyPost_ret (v := .int .i64 (sgn l1 l2)) (by simp [results, Tryz.results72, go_sem]) rfl ⟨rfl, ?_⟩
  exact (((Below.refl _ _).alloc (Nat.le_refl _) _).alloc (by simp) _)

/-- The loop's word: the groups from k on are equal. -/
def CmpI (w : World) (v2 : Value) (a b : Nat) (k : Nat) (W : World) : Prop :=
  ((Boxed W w.heap.size 92 v2 ∧ (∃ r, Boxed W (w.heap.size + 1) 3 r)) ∧ Below w.heap.size w W) ∧ Hid ((Num.grp a).drop k = (Num.grp b).drop k)
def CmpX (w : World) (a b : Nat) (W : World) : Prop := Boxed W (w.heap.size + 1) 3 (.int .i64 (sgn a b)) ∧ Below w.heap.size w W

theorem CmpI.turns {w : World} {v2 : Value} {a b k B : Nat} (hB : w.heap.size ≤ B) : Turns B (CmpI w v2 a b k) :=
  Turns.and (Turns.and (Turns.and Turns.boxed (fun W W' row ⟨r, h⟩ hg hr => ⟨r, Turns.boxed W W' row h hg hr⟩)) (Turns.below (Nat.le_refl _) hB)) Turns.const
theorem CmpX.turns {w : World} {a b B : Nat} (hB : w.heap.size ≤ B) : Turns B (CmpX w a b) := Turns.and Turns.boxed (Turns.below (Nat.le_refl _) hB)

set_option maxRecDepth 100000 in
set_option maxHeartbeats 2000000 in
theorem compare_same (a1 a2 : Option Addr) (len c1 c2 : Nat) (w : World) (a b : Nat) (hla : Hid (Num.gl a = len)) (hlb : Hid (Num.gl b = len)) (hlen : len ≤ 1000000000) (h1 : Row w.heap.size w a1 (Num.grp a)) (h2 : Row w.heap.size w a2 (Num.grp b)) :
    Calls Tryz.prog 72 #[.slice a1 len c1, .slice a2 len c2] w fun e w' => e = .returned (.int .i64 (sgn a b)) ∧ Below w.heap.size w w' := by
  have HR := Lib.hid h1
  have HR2 := Lib.hid h2
  clear h1 h2
  refine (callsIn_wide (n := 5)).1 ?_
  refine callsIn_of_wp_marks Tryz.func72 rfl trivial ?_ rfl
  simp only [Tryz.ntmps72, List.size_toArray, List.length_cons, List.length_nil, Nat.reduceAdd, Nat.reduceSub, Array.replicate_succ, Array.replicate_zero, List.push_toArray, List.append_toArray, List.nil_append, List.cons_append]
  gi_wp2_with (refine ⟨trivial, ?_⟩; gi_at_call 121; refine (callsIn_wide.2 (backward_any _ _ _ _)).mono ?_; rintro e w' ⟨rfl, rfl⟩)
  have bM := Boxed.new w 92 (.slice a2 len c2)
  have bR := Boxed.new (w.alloc (.cells #[.slice a2 len c2] 92)) 3 (.int .i64 0)
  have bN := Boxed.new ((w.alloc (.cells #[.slice a2 len c2] 92)).alloc (.cells #[.int .i64 0] 3)) 92 (.slice a1 len c1)
  rw [World.size_alloc] at bR
  rw [World.size_alloc, World.size_alloc] at bN
  have hB0 : Below w.heap.size w (((w.alloc (.cells #[.slice a2 len c2] 92)).alloc (.cells #[.int .i64 0] 3)).alloc (.cells #[.slice a1 len c1] 92)) := (((Below.refl _ w).alloc (Nat.le_refl _) _).alloc (by simp) _).alloc (by simp; omega) _
  have hlz : (Num.grp a).length = len := hla.out
  refine wpIn_back 5 (by omega) (w.heap.size + 1 + 1) w.heap.size a1 c1 (Num.grp a) (by omega) rfl rfl (by rw [hlz]; exact bN.cell) hB0.size (HR.out.below hB0)
    (CmpI w (.slice a2 len c2) a b) (CmpX w a b) (fun k => CmpI.turns hB0.size) (CmpX.turns hB0.size)
    ⟨⟨⟨(bM.alloc _).alloc _, _, bR.alloc _⟩, hB0⟩, Lib.hid (by rw [List.drop_length, List.drop_eq_nil_of_le (by have := hlb.out; unfold Num.gl at this; omega)])⟩
    (fun k d => { tmps := #[.slice a1 len c1, .slice a2 len c2, undef, .pointer (some ⟨w.heap.size, 0, none⟩), .pointer (some ⟨w.heap.size + 1, 0, none⟩), .int .i64 (k : Int), dv d, .slice a1 len c1, .int .i64 (len : Int), .slice a2 len c2, .int .i64 (len : Int), .bool false, undef, undef, undef, undef, undef, .slice a1 len c1,
          .func (.func 156) #[] #[.pointer (some ⟨w.heap.size + 1 + 1, 0, none⟩)], .int .i64 (k : Int), dv d, undef, undef, undef, undef, undef, undef, undef, undef, undef, undef, undef, undef], defers := [] }) ?assign ?body ?done ?stop
  case assign =>
    intro l k d W K hK
    gi_wp2
    exact hK
  case body =>
    rintro l k d W hd ⟨⟨⟨cM, r, cR⟩, hB⟩, HI⟩ _
    have hkl : k < len := by rw [← hlz]; exact (List.getElem?_eq_some_iff.1 hd).1
    obtain ⟨d', hd'⟩ : ∃ d', (Num.grp b)[k]? = some d' := ⟨(Num.grp b)[k]'(by have := hlb.out; unfold Num.gl at this; omega), List.getElem?_eq_getElem _⟩
    obtain ⟨b2, o2, rfl, hb2, hc2⟩ := HR2.out (by intro e; rw [e] at hd'; simp at hd')
    have hcm : W.cell? ⟨b2, o2 + k, none⟩ = some (dv d') := (hB.cell (p := ⟨b2, o2 + k, none⟩) hb2).trans (hc2 k d' hd')
    have GD := Lib.hid hd
    have GD' := Lib.hid hd'
    have GC := fun W => Lib.hid (cmp_any d d' W)
    have hM := cM.cell
    have hR := cR.cell
    have hRf := cR.frozen
    clear hd hd' hc2 bN hB0
    by_cases hdd : d = d'
    · subst hdd
      gi_wp2
      exact ⟨KeepsFrom.refl _ _, KpB.refl _ _ _, ⟨⟨cM, r, cR⟩, hB⟩, Lib.hid (Num.drop_of_eq GD.out GD'.out HI.out)⟩
    · have hne : ((d : Int) != (d' : Int)) = true := by rw [bne_iff_ne]; omega
      gi_wp2_with fail
      refine ⟨trivial, (CallsIn.inRound l (callsIn_wide.2 (GC _).out)).mono ?_⟩
      rintro e w' ⟨rfl, rfl⟩
      gi_wp2
      have hs : sgn (d : Int) (d' : Int) = sgn (a : Int) (b : Int) := by
        rw [sgn_cast, sgn_cast]
        have hl := hla.out.trans hlb.out.symm
        rcases Nat.lt_or_ge d d' with h | h
        · have := Num.lt_of_top hl GD.out GD'.out HI.out h
          rw [if_pos h, if_pos this]
        · have h' : d' < d := by omega
          have := Num.lt_of_top hl.symm GD'.out GD.out HI.out.symm h'
          rw [if_neg (by omega), if_pos h', if_neg (by omega), if_pos this]
      rw [hs]
      exact ⟨(KeepsOthers.setCell _ _ _).from _, cR.set _, hB.setCell (p := ⟨w.heap.size + 1, 0, none⟩) (by simp) _⟩
  case done =>
    rintro D W hD ⟨⟨⟨cM, r, cR⟩, hB⟩, HI⟩ hK
    have hR := cR.cell
    have hRf := cR.frozen
    have hab : a = b := Num.eq_of_grp (by have := HI.out; simpa using this)
    gi_wp2
    have hK' := (KeepsOthers.setCell W ⟨w.heap.size + 1, 0, none⟩ (.int .i64 0)).same D _ hK rfl
    refine ⟨by simp, .inl ⟨_, _, rfl, run_takeDeferred hK', ?_⟩⟩
    have hc5 := ((cR.set (.int .i64 0)).kept (grownBy_putObj' _ D (.deferred none)) (by have := cR.set (.int .i64 0); intro e; cases e; rw [show _ = _ from this] at hK'; cases hK')).cell
    refine ⟨.int .i64 0, ?_, by rw [hab, sgn_eq rfl], (hB.setCell (p := ⟨w.heap.size + 1, 0, none⟩) (by simp) _).trans (belowK_b (w := w) (Nat.le_refl _) _ D _ _ (by simp at hD; omega) hK' rfl rfl)⟩
    simp [results, Tryz.f72, go_sem, hc5]
  case stop =>
    rintro D W hD ⟨bR, hB⟩ hK
    gi_wp2
    refine ⟨by simp, .inl ⟨_, _, rfl, run_takeDeferred hK, ?_⟩⟩
    have hc5 := (bR.kept (grownBy_putObj' _ D (.deferred none)) (by intro e; cases e; rw [show _ = _ from bR] at hK; cases hK)).cell
    refine ⟨.int .i64 (sgn a b), ?_, rfl, hB.trans (belowK_b (w := w) (Nat.le_refl _) _ D _ _ (by simp at hD; omega) hK rfl rfl)⟩
    simp [results, Tryz.f72, go_sem, hc5]

/-- 'compare': -1, 0 or 1. -/
theorem compare_any (w : World) (v1 v2 : Value) (a b : Nat) (ha : Num.gl a ≤ 10000000) (h1 : IsNum w.heap.size w v1 a) (h2 : IsNum w.heap.size w v2 b) :
    Calls Tryz.prog 72 #[v1, v2] w fun e w' => e = .returned (.int .i64 (sgn a b)) ∧ Below w.heap.size w w' := by
  obtain ⟨a1, c1, rfl, hc1, r1⟩ := h1
  obtain ⟨a2, c2, rfl, hc2, r2⟩ := h2
  by_cases h : Num.gl a = Num.gl b
  · rw [← h]
    exact compare_same a1 a2 _ c1 c2 w a b (Lib.hid rfl) (Lib.hid h.symm) (by omega) r1 r2
  · have hs : sgn (a : Int) (b : Int) = sgn (Num.gl a : Int) (Num.gl b : Int) := by
      rw [sgn_cast, sgn_cast]
      rcases Nat.lt_or_ge (Num.gl a) (Num.gl b) with hl | hl
      · rw [if_pos hl, if_pos (Num.lt_of_gl_lt hl)]
      · have hl' : Num.gl b < Num.gl a := by omega
        have := Num.lt_of_gl_lt hl'
        rw [if_neg (by omega), if_pos (by omega), if_neg (by omega), if_pos hl']
    rw [hs]
    exact compare_lens a1 a2 _ _ c1 c2 w h
end Go.Proofs.YtkihodadopcioaaGreatDoor
namespace Go.Proofs.YtkihodadopcioaaGreatDoor
open Go.RowKit

theorem Boxed.below {W W' : World} {B : Nat} {t : TypeId} {v : Value} (h : Boxed W B t v) (hb : Below W.heap.size W W') : Boxed W' B t v := (hb.block B h.lt).trans h
theorem Boxed.below' {W W' : World} {B n : Nat} {t : TypeId} {v : Value} (h : Boxed W B t v) (hb : Below n W W') (hn : B < n) : Boxed W' B t v := (hb.block B hn).trans h
theorem Boxed.other {W : World} {B B' : Nat} {t : TypeId} {v : Value} (u : Value) (h : Boxed W B t v) (hne : B ≠ B') : Boxed (W.setCell ⟨B', 0, none⟩ u) B t v := h.kept (grownBy_setCell' W B' u) (by intro e; cases e; exact hne rfl)

/-- A row of groups is not a variable's box of slices. -/
theorem Row.set_box {B C : Nat} {W : World} {a : Option Addr} {l : List Nat} {t : TypeId} {b : Option Addr} {n c : Nat} (h : Row B W a l) (hx : Boxed W C t (.slice b n c)) (u : Value) : Row B (W.setCell ⟨C, 0, none⟩ u) a l := fun hl => by
  obtain ⟨g, o, e, hb, hc⟩ := h hl
  refine ⟨g, o, e, hb, fun j d hd => ?_⟩
  have h1 := hc j d hd
  have hne : g ≠ C := by
    intro e'
    subst e'
    have h2 := hx.cell
    unfold World.cell? at h1 h2
    rw [show W.heap[g]? = _ from hx] at h1 h2
    simp at h1
    rcases h0 : o + j with _ | k
    · rw [h0] at h1; simp at h1
    · rw [h0] at h1; simp at h1
  exact (World.cell?_of_block (a := ⟨g, o + j, none⟩) (Below.heap_setCell W ⟨C, 0, none⟩ u g hne)).trans h1
theorem IsNum.set_box {B C : Nat} {W : World} {v : Value} {x : Nat} {t : TypeId} {b : Option Addr} {n c : Nat} (h : IsNum B W v x) (hx : Boxed W C t (.slice b n c)) (u : Value) : IsNum B (W.setCell ⟨C, 0, none⟩ u) v x := by
  obtain ⟨a, cap, e, hc, hr⟩ := h
  exact ⟨a, cap, e, hc, hr.set_box hx u⟩
theorem Row.kept {B : Nat} {W W' : World} {row : Option Nat} {a : Option Addr} {l : List Nat} (h : Row B W a l) (hg : W.grownBy W' row) (hr : ∀ r, row = some r → ∃ o : Obj, W.heap[r]? = some o ∧ o.isCells = false) : Row B W' a l := fun hl => by
  obtain ⟨g, o, e, hb, hc⟩ := h hl
  exact ⟨g, o, e, hb, fun j d hd => cell_kept (hc j d hd) hg hr⟩
/-- A number in memory abides the turn of what is no cells. -/
theorem Turns.num {B : Nat} {v : Value} {x : Nat} : Turns B (fun W => IsNum W.heap.size W v x) := fun W W' row h hg hr => by
  obtain ⟨a, cap, e, hc, hrw⟩ := h
  exact ⟨a, cap, e, hc, (hrw.kept hg (fun r e => (hr r e).2)).mono hg.size⟩
theorem Turns.ex {α : Type} {B : Nat} {I : α → World → Prop} (h : ∀ x, Turns B (I x)) : Turns B (fun W => ∃ x, I x W) := fun W W' row ⟨x, hx⟩ hg hr => ⟨x, h x W W' row hx hg hr⟩

theorem setCell_size (W : World) (a : Addr) (u : Value) : (W.setCell a u).heap.size = W.heap.size := by simp [World.setCell]

/-- A literal of one group owns its row. -/
theorem lit_own (W : World) (d : Nat) : (W.alloc (.cells #[dv d] 3)).ownsRow W.heap.size 3 1 (.slice (some ⟨W.heap.size, 0, none⟩) 1 1) 1 [dv d] :=
  ⟨rfl, .inr ⟨W.heap.size, 1, #[dv d], rfl, Nat.le_refl _, World.alloc_heap_new W _, Nat.le_refl _, by unfold maxLen; omega, rfl, rfl⟩⟩

/-- Behind the append onto a literal: the groups of the number, one place further. -/
theorem lit_num {w1 : World} {v' : Value} {d x m base : Nat} (h : w1.ownsRow base 3 1 v' (1 + m) ([dv d] ++ (Num.grp x).map dv)) (hd : d < 10000) (hx : x ≠ 0 ∨ d ≠ 0) : IsNum w1.heap.size w1 v' (d + 10000 * x) := by
  have h' : w1.ownsRow base 3 1 v' (1 + m) ((d :: Num.grp x).map dv) := by simpa using h
  obtain ⟨a, cap, e, hc, hr, _⟩ := row_of_own h'
  rw [← Num.grp_shift hd hx] at e hc hr
  exact ⟨a, cap, e, hc, hr⟩

theorem row_news {B : Nat} {W : World} {ad : Addr} {l : List Nat} (h : Row B W (some ad) l) : ∀ j u, (l.map dv)[j]? = some u → W.cell? (ad.add j) = some u := by
  intro j u hu
  rw [List.getElem?_map] at hu
  obtain ⟨d, hd, rfl⟩ := Option.map_eq_some_iff.1 hu
  obtain ⟨b, o, e, _, hc⟩ := h (by intro e; rw [e] at hd; simp at hd)
  cases e
  have := hc j d hd
  have hadd : (⟨b, o, none⟩ : Addr).add j = ⟨b, o + j, none⟩ := by
    unfold Addr.add
    split
    · rename_i h0; subst h0; rfl
    · rfl
  rw [hadd]
  exact this
theorem news_one (l : List Nat) : ∀ u ∈ l.map dv, u.oneCell' = true := by
  intro u hu
  obtain ⟨d, _, rfl⟩ := List.mem_map.1 hu
  rfl
theorem keeps_of_below {W W' : World} (hb : Below W.heap.size W W') : KeepsOthers W W' := ⟨hb.size, fun k _ hk _ => (hb.block k (Array.getElem?_eq_some_iff.1 hk).1).trans hk⟩
theorem KpB.of_below {n₁ Bs : Nat} {W W' : World} (hb : Below W.heap.size W W') (h1 : n₁ ≤ W.heap.size) (h2 : Bs < W.heap.size) : KpB n₁ Bs W W' := ⟨hb.mono h1, hb.cell (p := ⟨Bs, 0, none⟩) h2⟩
theorem KpB.set {n₁ Bs C : Nat} (W : World) (u : Value) (h1 : n₁ ≤ C) (h2 : Bs ≠ C) : KpB n₁ Bs W (W.setCell ⟨C, 0, none⟩ u) :=
  ⟨(Below.refl _ _).setCell (p := ⟨C, 0, none⟩) h1 u, World.cell?_of_block (a := ⟨Bs, 0, none⟩) (Below.heap_setCell W ⟨C, 0, none⟩ u Bs h2)⟩

/-- A step of a round: a call that makes memory, then a store into a box. -/
structure Step (n₁ Bs : Nat) (W W' : World) : Prop where
  keeps : KeepsOthers W W'
  kp : KpB n₁ Bs W W'
  size : W.heap.size ≤ W'.heap.size
theorem Step.refl {n₁ Bs : Nat} (W : World) : Step n₁ Bs W W := ⟨KeepsOthers.refl W, KpB.refl _ _ W, Nat.le_refl _⟩
theorem Step.trans {n₁ Bs : Nat} {A B C : World} (h : Step n₁ Bs A B) (k : Step n₁ Bs B C) : Step n₁ Bs A C := ⟨h.keeps.trans k.keeps, h.kp.trans k.kp, Nat.le_trans h.size k.size⟩
theorem Step.call {n₁ Bs : Nat} {A W W' : World} (h : Step n₁ Bs A W) (hb : Below W.heap.size W W') (h1 : n₁ ≤ A.heap.size) (h2 : Bs < A.heap.size) : Step n₁ Bs A W' :=
  h.trans ⟨keeps_of_below hb, KpB.of_below hb (Nat.le_trans h1 h.size) (Nat.lt_of_lt_of_le h2 h.size), hb.size⟩
theorem Step.set {n₁ Bs C : Nat} {A W : World} (h : Step n₁ Bs A W) (u : Value) (h1 : n₁ ≤ C) (h2 : Bs ≠ C) : Step n₁ Bs A (W.setCell ⟨C, 0, none⟩ u) :=
  h.trans ⟨KeepsOthers.setCell _ _ _, KpB.set W u h1 h2, by rw [setCell_size]; exact Nat.le_refl _⟩
theorem Step.drew {n₁ Bs : Nat} {A W : World} (h : Step n₁ Bs A W) : Step n₁ Bs A W.drew := ⟨⟨h.keeps.size, h.keeps.same⟩, ⟨h.kp.1.drew, h.kp.2⟩, h.size⟩
end Go.Proofs.YtkihodadopcioaaGreatDoor
namespace Go.Proofs.YtkihodadopcioaaGreatDoor
open Go.RowKit Go.Shelf

attribute [local go_sem] Oper.semAt_some

/-- The loop's word: out is a times the groups from k on. -/
def TimI (w : World) (v1 : Value) (a b k : Nat) (W : World) : Prop :=
  (Boxed W w.heap.size 92 v1 ∧ (∃ v, Boxed W (w.heap.size + 1) 92 v ∧ IsNum W.heap.size W v (a * Num.hi b k))) ∧ Below w.heap.size w W
theorem TimI.turns {w : World} {v1 : Value} {a b k B : Nat} (hB : w.heap.size ≤ B) : Turns B (TimI w v1 a b k) :=
  Turns.and (Turns.and Turns.boxed (Turns.ex fun _ => Turns.and Turns.boxed Turns.num)) (Turns.below (Nat.le_refl _) hB)

theorem tim_next {w A W W' W'' : World} {v1 ov : Value} {a b k d X Y B : Nat} {qa : Option Addr} {qc : Nat} {ob : Option Addr} {on oc : Nat} (hA : Below w.heap.size w A) (hst : Step w.heap.size (w.heap.size + 1 + 1) A W) (hs : w.heap.size + 1 + 1 < A.heap.size)
    (cL : Boxed W w.heap.size 92 v1) (cO : Boxed W (w.heap.size + 1) 92 ov) (ho : ov = .slice ob on oc) (hb1 : Below W.heap.size W W') (hb2 : Below W'.heap.size W' W'')
    (hq : IsNum W''.heap.size W'' (.slice qa (Num.gl (Y + a * d)) qc) (Y + a * d)) (hX : Hid (X = a * Num.hi b (k + 1))) (hY : Hid (Y = 10000 * X)) (hS : Hid (Num.hi b k = d + 10000 * Num.hi b (k + 1))) :
    KeepsFrom B A (W''.setCell ⟨w.heap.size + 1, 0, none⟩ (.slice qa (Num.gl (Y + a * d)) qc)) ∧ KpB w.heap.size (w.heap.size + 1 + 1) A (W''.setCell ⟨w.heap.size + 1, 0, none⟩ (.slice qa (Num.gl (Y + a * d)) qc)) ∧
      TimI w v1 a b k (W''.setCell ⟨w.heap.size + 1, 0, none⟩ (.slice qa (Num.gl (Y + a * d)) qc)) := by
  have st := ((hst.call hb1 hA.size hs).call hb2 hA.size hs).set (C := w.heap.size + 1) (.slice qa (Num.gl (Y + a * d)) qc) (by omega) (by omega)
  have cL2 := Boxed.other (.slice qa (Num.gl (Y + a * d)) qc) (Boxed.below (Boxed.below cL hb1) hb2) (show w.heap.size ≠ w.heap.size + 1 by omega)
  have cO2 := Boxed.below (Boxed.below cO hb1) hb2
  have e : a * Num.hi b k = Y + a * d := by
    rw [hS.out, hY.out, hX.out, Nat.mul_add, Nat.mul_left_comm]; omega
  refine ⟨st.keeps.from _, st.kp, ⟨cL2, _, cO2.set _, ?_⟩, hA.trans st.kp.1⟩
  rw [setCell_size, e]
  subst ho
  exact hq.set_box cO2 _

set_option maxRecDepth 100000 in
set_option maxHeartbeats 2000000 in
theorem times_walk (w : World) (a1 a2 : Option Addr) (l1 l2 c1 c2 a b : Nat) (hla : Hid (Num.gl a = l1)) (hlb : Hid (Num.gl b = l2)) (hA : l1 ≤ 1000000) (hB : l2 ≤ 1000000)
    (h1 : IsNum w.heap.size w (.slice a1 l1 c1) a) (h2 : Row w.heap.size w a2 (Num.grp b)) :
    Calls Tryz.prog 71 #[.slice a1 l1 c1, .slice a2 l2 c2] w fun e w' => (∃ v, e = .returned v ∧ IsNum w'.heap.size w' v (a * b)) ∧ Below w.heap.size w w' := by
  have H1 := Lib.hid h1
  have H2 := Lib.hid h2
  clear h1 h2
  refine (callsIn_wide (n := 5)).1 ?_
  refine callsIn_of_wp_marks Tryz.func71 rfl trivial ?_ rfl
  simp only [Tryz.ntmps71, List.size_toArray, List.length_cons, List.length_nil, Nat.reduceAdd, Nat.reduceSub, Array.replicate_succ, Array.replicate_zero, List.push_toArray, List.append_toArray, List.nil_append, List.cons_append]
  gi_wp2_with (refine ⟨trivial, ?_⟩; gi_at_call 121; refine (callsIn_wide.2 (backward_any _ _ _ _)).mono ?_; rintro e w' ⟨rfl, rfl⟩)
  have bL := Boxed.new w 92 (.slice a1 l1 c1)
  have bO := Boxed.new (w.alloc (.cells #[.slice a1 l1 c1] 92)) 92 (.slice none 0 0)
  have bN := Boxed.new ((w.alloc (.cells #[.slice a1 l1 c1] 92)).alloc (.cells #[.slice none 0 0] 92)) 92 (.slice a2 l2 c2)
  rw [World.size_alloc] at bO
  rw [World.size_alloc, World.size_alloc] at bN
  have hB0 : Below w.heap.size w (((w.alloc (.cells #[.slice a1 l1 c1] 92)).alloc (.cells #[.slice none 0 0] 92)).alloc (.cells #[.slice a2 l2 c2] 92)) := (((Below.refl _ w).alloc (Nat.le_refl _) _).alloc (by simp) _).alloc (by simp; omega) _
  have hlz : (Num.grp b).length = l2 := hlb.out
  refine wpIn_back 5 (by omega) (w.heap.size + 1 + 1) w.heap.size a2 c2 (Num.grp b) (by omega) rfl rfl (by rw [hlz]; exact bN.cell) hB0.size (H2.out.below hB0)
    (TimI w (.slice a1 l1 c1) a b) (fun _ => False) (fun k => TimI.turns hB0.size) Turns.const
    ⟨⟨(bL.alloc _).alloc _, _, bO.alloc _, by rw [Num.hi_end, Nat.mul_zero]; exact ⟨none, 0, by rw [Num.gl_zero], by rw [Num.gl_zero]; exact Nat.le_refl _, by rw [Num.grp_zero]; exact Row.nil⟩⟩, hB0⟩
    (fun k d => { tmps := #[.slice a1 l1 c1, .slice a2 l2 c2, .pointer (some ⟨w.heap.size, 0, none⟩), undef, .slice none 0 0, .pointer (some ⟨w.heap.size + 1, 0, none⟩), undef, dv d, .slice a2 l2 c2,
          .func (.func 156) #[] #[.pointer (some ⟨w.heap.size + 1 + 1, 0, none⟩)], .int .i64 (k : Int), dv d, undef, undef, undef, undef, undef, undef, undef, undef, undef, undef, undef, undef], defers := [] }) ?assign ?body ?done ?stop
  case assign =>
    intro l k d W K hK
    gi_wp2
    exact hK
  case body =>
    rintro l k d W hd ⟨⟨cL, v, cO, hX⟩, hBw⟩ hBs
    have hsz : w.heap.size + 1 + 1 < W.heap.size := by have := hBs.size; simp at this; omega
    clear hBs
    obtain ⟨i0, hi, hz0, hz1, hz2⟩ := info_parts int_info
    have HD : d < 10000 := Num.grp_get_lt hd
    have GS := Lib.hid (Num.hi_succ hd)
    have hgh : Num.gl (Num.hi b (k + 1)) ≤ l2 := hlb.out ▸ Num.gl_mono (Num.hi_le b _)
    have hgX : Num.gl (a * Num.hi b (k + 1)) ≤ 2000000 := by have := Num.gl_mul a (Num.hi b (k + 1)); have := hla.out; omega
    obtain ⟨X, hXe⟩ : ∃ X, X = a * Num.hi b (k + 1) := ⟨_, rfl⟩
    rw [← hXe] at hX hgX
    have GX := Lib.hid hXe
    have hlt := cO.lt
    have HA1 : Num.gl a ≤ 10000000 := by have := hla.out; omega
    have HAD : Num.gl (a * d) ≤ 10000000 := by have h1 := Num.gl_mul a d; have h2 := hla.out; have h3 : Num.gl d ≤ 1 := Num.gl_le.2 (by omega); omega
    clear hd hXe hgh bL bO bN hB0
    obtain ⟨av, cv, rfl, hcv, hrv⟩ := hX
    by_cases hz : X = 0
    · have hnp : ¬ 0 < Num.gl X := by rw [hz, Num.gl_zero]; omega
      have HYd : IsNum W.drew.heap.size W.drew (.slice av (Num.gl X) cv) X := ⟨av, cv, rfl, hcv, hrv⟩
      have GY : Hid (X = 10000 * X) := Lib.hid (by omega)
      have hO := cO.cell
      have hOf := cO.frozen
      clear hcv hrv hz
      gi_wp2
      have HLd : IsNum W.drew.heap.size W.drew (.slice a1 l1 c1) a := H1.out.below hBw |>.mono hBw.size
      have HY2 : Num.gl X ≤ 10000000 := by omega
      have gL := cL.cell
      have cOd : Boxed W.drew (w.heap.size + 1) 92 (.slice av (Num.gl X) cv) := cO
      have mixed : Tryz.prog.follows .mixedOrders = true := by kernel_rfl
      gi_region_with_o (first
        | (refine ⟨trivial, ?_⟩; gi_at_call 125; refine (CallsIn.inRound l (callsIn_wide.2 (by_any _ _ a d HA1 HD HLd))).mono ?_; rintro e w' ⟨⟨pv, rfl, hpv⟩, hb3⟩; have gO3 := (Boxed.below cOd hb3).cell)
        | (refine ⟨trivial, ?_⟩; gi_at_call 79; refine (CallsIn.inRound l (callsIn_wide.2 (plus_any _ _ _ X (a * d) HY2 HAD (HYd.later hb3) hpv))).mono ?_; rintro e w'' ⟨⟨qv, rfl, ⟨qa, qc, rfl, hqc, hqr⟩⟩, hb4⟩; have gO4 := (Boxed.below (Boxed.below cOd hb3) hb4).cell; have gO4f := (Boxed.below (Boxed.below cOd hb3) hb4).frozen))
      all_goals exact tim_next (ov := .slice av (Num.gl X) cv) hBw (Step.refl (n₁ := w.heap.size) (Bs := w.heap.size + 1 + 1) W).drew hsz cL cOd rfl hb3 hb4 ⟨qa, qc, rfl, hqc, hqr⟩ GX GY GS
    · obtain ⟨b0, o0, rfl, hb0, hc0⟩ := hrv (fun e => hz (Num.grp_eq_nil.1 e))
      have hpos : 0 < Num.gl X := Num.gl_pos.2 hz
      have hO := cO.cell
      have hOf := cO.frozen
      have hnews := row_news (l := Num.grp X) (B := W.heap.size) (W := W.alloc (.cells #[dv 0] 3)) (ad := ⟨b0, o0, none⟩) (hrv.below ((Below.refl _ _).alloc (Nat.le_refl _) _))
      have GN := Lib.hid hnews
      have GZ := Lib.hid hz
      clear hc0 hrv hnews hz
      gi_wp2_with (gi_at_builtin; refine wpListIn_append_own _ rfl (.tmp 15) (.tmp 16) 92 rfl W.heap.size 3 i0 (.int .i64 0) 1 8 Tryz.underlying92 hi hz0 hz1 hz2 rfl (by decide) _ 1 [dv 0] rfl (lit_own W 0) ⟨b0, o0, none⟩ (Num.gl X) cv ((Num.grp X).map dv) rfl ?c0 ?c1 (news_one _) ?b1 ?b2 ?b3 ?_)
      case c0 => simp [Num.gl]
      case c1 => exact GN.out
      case b1 => unfold maxLen; omega
      case b2 => omega
      case b3 => simp
      intro v' w1 hown' hgrow _
      have hN := lit_num hown' (by omega) (.inl GZ.out)
      have hb01 : Below W.heap.size W w1 := ((Below.refl _ W).alloc (Nat.le_refl _) _).grown hgrow (by simp) (fun j e => by simp [Value.ownBlock] at e; omega)
      obtain ⟨Y, hYe⟩ : ∃ Y, Y = 10000 * X := ⟨_, rfl⟩
      rw [Nat.zero_add, ← hYe] at hN
      have GY := Lib.hid hYe
      obtain ⟨av', cv', rfl, hcv', hrv'⟩ := hN
      have cO1 := Boxed.below cO hb01
      have hO1 := cO1.cell
      have hOf1 := cO1.frozen
      clear hown' hgrow hYe hO hOf
      have HNY : IsNum (w1.setCell ⟨w.heap.size + 1, 0, none⟩ (.slice av' (Num.gl Y) cv')).heap.size (w1.setCell ⟨w.heap.size + 1, 0, none⟩ (.slice av' (Num.gl Y) cv')) (.slice av' (Num.gl Y) cv') Y := by
        rw [setCell_size]; exact (show IsNum w1.heap.size w1 _ Y from ⟨av', cv', rfl, hcv', hrv'⟩).set_box cO1 _
      have cO2 := cO1.set (.slice av' (Num.gl Y) cv')
      have cL2 := Boxed.other (.slice av' (Num.gl Y) cv') (Boxed.below cL hb01) (show w.heap.size ≠ w.heap.size + 1 by omega)
      gi_wp2
      have st := ((Step.refl (n₁ := w.heap.size) (Bs := w.heap.size + 1 + 1) W).call hb01 hBw.size hsz).set (C := w.heap.size + 1) (.slice av' (Num.gl Y) cv') (by omega) (by omega)
      obtain ⟨W2, hW2⟩ : ∃ W2, W2 = w1.setCell ⟨w.heap.size + 1, 0, none⟩ (.slice av' (Num.gl Y) cv') := ⟨_, rfl⟩
      rw [← hW2] at HNY cO2 cL2 st ⊢
      have hb2 := hBw.trans st.kp.1
      have HL : IsNum W2.heap.size W2 (.slice a1 l1 c1) a := H1.out.below hb2 |>.mono hb2.size
      have HY2 : Num.gl Y ≤ 10000000 := by
        have h1 := Num.gl_mul 10000 X
        have h2 : Num.gl 10000 ≤ 2 := Num.gl_le.2 (by omega)
        rw [← GY.out] at h1
        omega
      have gO := cO2.cell
      have gOf := cO2.frozen
      have gL := cL2.cell
      have HLd : IsNum W2.drew.heap.size W2.drew (.slice a1 l1 c1) a := HL
      have HYd : IsNum W2.drew.heap.size W2.drew (.slice av' (Num.gl Y) cv') Y := HNY
      have cOd : Boxed W2.drew (w.heap.size + 1) 92 (.slice av' (Num.gl Y) cv') := cO2
      have mixed : Tryz.prog.follows .mixedOrders = true := by kernel_rfl
      clear hW2 hO1 hOf1 hrv' HL HNY
      gi_region_with_o (first
        | (refine ⟨trivial, ?_⟩; gi_at_call 125; refine (CallsIn.inRound l (callsIn_wide.2 (by_any _ _ a d HA1 HD HLd))).mono ?_; rintro e w' ⟨⟨pv, rfl, hpv⟩, hb3⟩; have gO3 := (Boxed.below cOd hb3).cell)
        | (refine ⟨trivial, ?_⟩; gi_at_call 79; refine (CallsIn.inRound l (callsIn_wide.2 (plus_any _ _ _ Y (a * d) HY2 HAD (HYd.later hb3) hpv))).mono ?_; rintro e w'' ⟨⟨qv, rfl, ⟨qa, qc, rfl, hqc, hqr⟩⟩, hb4⟩; have gO4 := (Boxed.below (Boxed.below cOd hb3) hb4).cell; have gO4f := (Boxed.below (Boxed.below cOd hb3) hb4).frozen))
      all_goals exact tim_next (ov := .slice av' (Num.gl Y) cv') hBw st.drew hsz cL2 cOd rfl hb3 hb4 ⟨qa, qc, rfl, hqc, hqr⟩ GX GY GS
  case done =>
    rintro D W hD ⟨⟨cL, v, cO, hX⟩, hBw⟩ hK
    have hR := cO.cell
    rw [Num.hi_zero] at hX
    gi_wp2
    refine ⟨by simp, .inl ⟨_, _, rfl, run_takeDeferred hK, ?_⟩⟩
    refine ⟨_, results_tmp rfl _ _ _, ⟨v, rfl, Turns.num (B := 0) W _ (some D) hX (grownBy_putObj' W D _) (fun r e => by cases e; exact ⟨Nat.zero_le _, _, hK, rfl⟩)⟩, hBw.trans (belowK_b (w := w) (Nat.le_refl _) _ D _ _ (by simp at hD; omega) hK rfl rfl)⟩
  case stop =>
    rintro D W _ h _
    exact h.elim

/-- 'times': the product. -/
theorem times_any (w : World) (v1 v2 : Value) (a b : Nat) (ha : Num.gl a ≤ 1000000) (hb : Num.gl b ≤ 1000000) (h1 : IsNum w.heap.size w v1 a) (h2 : IsNum w.heap.size w v2 b) :
    Calls Tryz.prog 71 #[v1, v2] w fun e w' => (∃ v, e = .returned v ∧ IsNum w'.heap.size w' v (a * b)) ∧ Below w.heap.size w w' := by
  have h1' := h1
  obtain ⟨a1, c1, rfl, hc1, r1⟩ := h1
  obtain ⟨a2, c2, rfl, hc2, r2⟩ := h2
  exact times_walk w a1 a2 _ _ c1 c2 a b (Lib.hid rfl) (Lib.hid rfl) ha hb h1' r2
end Go.Proofs.YtkihodadopcioaaGreatDoor
namespace Go.Proofs.YtkihodadopcioaaGreatDoor
open Go.RowKit Go.Shelf

set_option maxHeartbeats 1000000 in
theorem search_any (g : Nat) (cb : Array Value) (n : Nat) (p : Nat → Bool) (w : World) (eg : ∀ args w, (callFunc g args).run Tryz.prog w = .ok (.enter g args) w) (hsz : n < 4611686018427387904)
    (hf : ∀ (W : World) (i : Nat), i < n → Below w.heap.size w W → Calls Tryz.prog g (#[.int .i64 (i : Int)] ++ cb) W fun e w' => e = .returned (.bool (p i)) ∧ Below W.heap.size W w')
    (hmono : ∀ a b, a ≤ b → b < n → p a = true → p b = true) :
    Calls Tryz.prog 99 #[.int .i64 (n : Int), .func (.func g) #[] cb] w fun e w' => (∃ r : Nat, e = .returned (.int .i64 (r : Int)) ∧ Hid (r ≤ n ∧ (∀ t, t < r → p t = false) ∧ (∀ t, r ≤ t → t < n → p t = true))) ∧ Below w.heap.size w w' := by
  have HF := Lib.hid hf
  have M := Lib.hid hmono
  clear hf hmono
  go_enter Tryz.func99, Tryz.ntmps99
  go_wp2
  go_loopg [5, 6] n (fun kx s5 s6 wr => ∃ (lo hi : Nat), s5 = .int .i64 (lo : Int) ∧ s6 = .int .i64 (hi : Int) ∧ lo ≤ hi ∧ hi ≤ n ∧ hi - lo ≤ kx ∧ Below w.heap.size w wr ∧
    Hid ((∀ t, t < lo → p t = false) ∧ (∀ t, hi ≤ t → t < n → p t = true)))
  case atStart => exact ⟨0, n, rfl, rfl, Nat.zero_le _, Nat.le_refl _, by omega, Below.refl _ _, Lib.hid ⟨fun t ht => absurd ht (Nat.not_lt_zero _), fun t h1 h2 => by omega⟩⟩
  case round =>
    obtain ⟨lo, hi, rfl, rfl, hlh, hin, hg, hB, I⟩ := hrel
    by_cases hlt : lo < hi
    · have hc := HF.out wr ((lo + hi) / 2) (by omega) hB
      rw [show (((lo + hi) / 2 : Nat) : Int) = ((lo : Int) + (hi : Int)) / 2 by omega] at hc
      cases hp : p ((lo + hi) / 2) <;> rw [hp] at hc
      · have HP := Lib.hid hp
        have HC := Lib.hid hc
        clear hp hc
        go_wp2_with fail
        refine HC.out.mono ?_
        rintro e w' ⟨rfl, hb⟩
        go_wp2
        go_roundg (hi - ((lo + hi) / 2 + 1))
        case measure => omega
        case rel =>
          have I2 : Hid ((∀ t, t < (lo + hi) / 2 + 1 → p t = false) ∧ (∀ t, hi ≤ t → t < n → p t = true)) := ⟨fun t ht => (by
            cases h : p t with
            | false => rfl
            | true => have := M.out t ((lo + hi) / 2) (by omega) (by omega) h; rw [HP.out] at this; cases this), I.out.2⟩
          exact ⟨(lo + hi) / 2 + 1, hi, by rw [show ((lo : Int) + (hi : Int)) / 2 + 1 = (((lo + hi) / 2 + 1 : Nat) : Int) by omega], rfl, by omega, hin, Nat.le_refl _, hB.trans (hb.mono hB.size), I2⟩
      · have HP := Lib.hid hp
        have HC := Lib.hid hc
        clear hp hc
        go_wp2_with fail
        refine HC.out.mono ?_
        rintro e w' ⟨rfl, hb⟩
        go_wp2
        go_roundg ((lo + hi) / 2 - lo)
        case measure => omega
        case rel =>
          have I2 : Hid ((∀ t, t < lo → p t = false) ∧ (∀ t, (lo + hi) / 2 ≤ t → t < n → p t = true)) := ⟨I.out.1, fun t ht htn => M.out ((lo + hi) / 2) t ht htn HP.out⟩
          exact ⟨lo, (lo + hi) / 2, rfl, by rw [show ((lo : Int) + (hi : Int)) / 2 = (((lo + hi) / 2 : Nat) : Int) by omega], by omega, by omega, Nat.le_refl _, hB.trans (hb.mono hB.size), I2⟩
    · obtain rfl : hi = lo := by omega
      go_wp2
      go_ret
      exact ⟨⟨hi, rfl, Lib.hid ⟨hin, I.out⟩⟩, hB⟩
end Go.Proofs.YtkihodadopcioaaGreatDoor
namespace Go.Proofs.YtkihodadopcioaaGreatDoor
open Go.RowKit Go.Shelf

theorem sgn_pos (x y : Int) : decide (0 < sgn x y) = decide (y < x) := by
  unfold sgn
  by_cases h : x < y
  · rw [if_pos h]; simp; omega
  · rw [if_neg h]
    by_cases h' : y < x
    · rw [if_pos h']; simp [h']
    · rw [if_neg h']; simp; omega

set_option maxHeartbeats 1000000 in
theorem too_much (W : World) (bb br b r d : Nat) (mv rv : Value) (hd : d < 9999) (hgb : Num.gl b ≤ 1000000) (h1 : W.cell? ⟨bb, 0, none⟩ = some (.func (.func 125) #[mv] #[])) (h2 : W.cell? ⟨br, 0, none⟩ = some rv)
    (k1 : IsNum W.heap.size W mv b) (k2 : IsNum W.heap.size W rv r) :
    Calls Tryz.prog 130 #[.int .i64 (d : Int), .pointer (some ⟨bb, 0, none⟩), .pointer (some ⟨br, 0, none⟩)] W fun e W' => e = .returned (.bool (decide (r < b * (d + 1)))) ∧ Below W.heap.size W W' := by
  have hlt : br < W.heap.size := World.block_lt_of_cell? W ⟨br, 0, none⟩ h2
  have hgp : Num.gl (b * (d + 1)) ≤ 10000000 := by
    have := Num.gl_mul b (d + 1)
    have : Num.gl (d + 1) ≤ 1 := Num.gl_le.2 (by omega)
    omega
  have HB := by_any W.drew mv b (d + 1) (by omega) (by omega) k1
  rw [show ((d + 1 : Nat) : Int) = (d : Int) + 1 by omega] at HB
  have HC := Lib.hid HB
  clear HB
  have K2 : Hid (IsNum W.drew.heap.size W.drew rv r) := Lib.hid k2
  have h2d : W.drew.cell? ⟨br, 0, none⟩ = some rv := h2
  have GF := Lib.hid (show decide (0 < sgn ((b * (d + 1) : Nat) : Int) (r : Int)) = decide (r < b * (d + 1)) by rw [sgn_pos, decide_eq_decide]; exact Int.ofNat_lt)
  have hw : IntKind.i64.wrap ((d : Int) + 1) = (d : Int) + 1 := IntWalk.i64_in _ (by omega)
  clear k1 k2
  go_enter Tryz.func130, Tryz.ntmps130
  go_wp2
  go_region_with (first
    | (go_at_call 125; refine HC.out.mono ?_; rintro e w' ⟨⟨pv, rfl, hpv⟩, hb3⟩; have HP := Lib.hid hpv; have g3 := (hb3.cell (p := ⟨br, 0, none⟩) hlt).trans h2d; clear hpv)
    | (go_at_call 72; refine (compare_any _ _ _ _ r hgp HP.out (K2.out.later hb3)).mono ?_; rintro e w'' ⟨rfl, hb4⟩))
  all_goals go_wp2
  all_goals go_ret
  all_goals refine ⟨?_, Below.trans (a := W) (b := W.drew) (Below.refl _ W).drew (hb3.trans (hb4.mono hb3.size))⟩
  all_goals exact congrArg (fun x => Ending.returned (.bool x)) GF.out
end Go.Proofs.YtkihodadopcioaaGreatDoor
namespace Go.Proofs.YtkihodadopcioaaGreatDoor
open Go.RowKit Go.Shelf

/-- What lies behind an append: the groups l. -/
structure LitRow (base : Nat) (w : World) (a : Option Addr) (cap : Nat) (l : List Nat) : Prop where
  cap : l.length ≤ cap
  row : Row w.heap.size w a l
  frs : Frs base a l

theorem run_append_lit (w : World) (base : Nat) (ty g d R rc B : Nat) (ra : Option Addr) (hown : w.ownsRow base 3 1 (.slice (some ⟨g, 0, none⟩) 1 1) 1 [dv d]) (hr : Row B w ra (Num.grp R)) (hlen : Num.gl R ≤ 10000000) (hbase : base ≤ w.heap.size) :
    ∃ a' cap' w', (Builtin.append_ #[92, 92] ty #[.slice (some ⟨g, 0, none⟩) 1 1, .slice ra (Num.gl R) rc]).run Tryz.prog w = .ok (.slice a' (d :: Num.grp R).length cap') w' ∧
      LitRow base w' a' cap' (d :: Num.grp R) ∧ w.grownBy w' (some g) := by
  obtain ⟨i0, hi, hz0, hz1, hz2⟩ := info_parts int_info
  rcases ra with _ | ad
  · have hR : Num.grp R = [] := by
      by_cases h : Num.grp R = []
      · exact h
      · obtain ⟨b, o, e, _⟩ := hr h
        cases e
    have hg : Num.gl R = 0 := by unfold Num.gl; rw [hR]; rfl
    obtain ⟨a, cap, e, hc, hrw, hf⟩ := row_of_own (l := [d]) hown
    injection e with e1 e2 e3
    subst e1 e3
    rw [hg, hR]
    refine ⟨_, _, w, ?_, ⟨hc, hrw, hf⟩, World.grownBy.refl w _⟩
    obtain ⟨_, h0 | ⟨g', cap, cur, e, _, _, hnc, _⟩⟩ := hown
    · cases h0.1
    · simp [Builtin.append_, run_underlying Tryz.underlying92, sizeOf, typeInfo, hi, Builtin.lenOf, Builtin.firstCells, storeCells]
  · obtain ⟨v', w', hrun, h2, h3, _⟩ := run_append_own (P := Tryz.prog) w base 92 ty 3 i0 (.int .i64 0) 1 8 Tryz.underlying92 hi hz0 hz1 hz2 rfl (by decide) _ 1 [dv d] hown ad (Num.gl R) rc ((Num.grp R).map dv) (by simp [Num.gl]) (row_news hr) (news_one _) (by unfold maxLen; omega) (by omega) hbase
    have h2' : w'.ownsRow base 3 1 v' (1 + Num.gl R) ((d :: Num.grp R).map dv) := by simpa using h2
    obtain ⟨a, cap, e, hc, hrw, hf⟩ := row_of_own h2'
    subst e
    exact ⟨a, cap, w', hrun, ⟨hc, hrw, hf⟩, h3⟩

/-- .. as a law for the fenced walk. -/
theorem wpListIn_append_lit {F : Fence} {n : Nat} (w : World) {ops : Array Oper} {rest : List Oper} {o : Oper} {a : Act} {Q : Exit → Act → World → Prop}
    (hg : o.guard = none) (s x : Operand) (hop : o.op = Op.call { callee := Callee.builtin Builtin.append, args := #[s, x], argTypes := #[92, 92] })
    (base g d R rc B : Nat) (ra : Option Addr) (hs : a.eval s = .slice (some ⟨g, 0, none⟩) 1 1) (hx : a.eval x = .slice ra (Num.gl R) rc) (hown : w.ownsRow base 3 1 (.slice (some ⟨g, 0, none⟩) 1 1) 1 [dv d]) (hr : Row B w ra (Num.grp R)) (hlen : Num.gl R ≤ 10000000) (hbase : base ≤ w.heap.size)
    (hK : ∀ a' cap' w', LitRow base w' a' cap' (d :: Num.grp R) → w.grownBy w' (some g) → wpListIn F n Tryz.prog ops Q rest (a.put o.dst (.slice a' (d :: Num.grp R).length cap')) w') :
    wpListIn F n Tryz.prog ops Q (o :: rest) a w := by
  refine wpListIn_plain hg fun K hK' => ?_
  obtain ⟨a', cap', w', hrun, r1, r2⟩ := run_append_lit w base o.type g d R rc B ra hown hr hlen hbase
  unfold Oper.wpIn
  refine ⟨?_, ?_⟩
  · simp [Oper.about, hop, resolve, Target.leads, Sem.run_pure]
  · rw [Oper.semAt_plain F _ _ (by rw [hop]; intro c hc'; cases hc')]
    simp only [execOp, hop, resolve, invoke, builtin, Sem.run_bind, Sem.run_pure, Result.andThen_ok, List.map_toArray, List.map_cons, List.map_nil, hs, hx, hrun]
    exact hK' _ _ (hK a' cap' w' r1 r2)
end Go.Proofs.YtkihodadopcioaaGreatDoor
namespace Go.Proofs.YtkihodadopcioaaGreatDoor
open Go.RowKit Go.Shelf

/-! ### Plain: one group more -/
theorem div_step {b H d : Nat} (hb : 0 < b) : (d + 10000 * H) / b = 10000 * (H / b) + (d + 10000 * (H % b)) / b := by
  have h := Nat.div_add_mod H b
  have e : d + 10000 * H = (d + 10000 * (H % b)) + b * (10000 * (H / b)) := by
    have : 10000 * H = 10000 * (b * (H / b)) + 10000 * (H % b) := by rw [← Nat.mul_add, h]
    rw [this, Nat.mul_left_comm b 10000]; omega
  rw [e, Nat.add_mul_div_left _ _ hb, Nat.add_comm]
theorem mod_step {b H d : Nat} : (d + 10000 * H) % b = (d + 10000 * (H % b)) % b := by
  have h := Nat.div_add_mod H b
  have e : d + 10000 * H = (d + 10000 * (H % b)) + b * (10000 * (H / b)) := by
    have : 10000 * H = 10000 * (b * (H / b)) + 10000 * (H % b) := by rw [← Nat.mul_add, h]
    rw [this, Nat.mul_left_comm b 10000]; omega
  rw [e, Nat.add_mul_mod_self_left]
theorem digit_step {b H d : Nat} (hb : 0 < b) (hd : d < 10000) : (d + 10000 * (H % b)) / b < 10000 := by
  have := Nat.mod_lt H hb
  rw [Nat.div_lt_iff_lt_mul hb]
  omega

theorem search_div {X b r : Nat} (hb : 0 < b) (hX : X < b * 10000) (h1 : r ≤ 9999) (h2 : ∀ t, t < r → decide (X < b * (t + 1)) = false) (h3 : ∀ t, r ≤ t → t < 9999 → decide (X < b * (t + 1)) = true) : r = X / b := by
  have hlo : b * r ≤ X := by
    cases r with
    | zero => simp
    | succ r => have := h2 r (Nat.lt_succ_self r); simp only [decide_eq_false_iff_not] at this; omega
  have hhi : X < b * (r + 1) := by
    by_cases h9 : r = 9999
    · subst h9; exact hX
    · have := h3 r (Nat.le_refl _) (by omega); simpa using this
  symm
  rw [Nat.div_eq_iff hb]
  rw [Nat.mul_add, Nat.mul_one] at hhi
  rw [Nat.mul_comm r b]
  omega
theorem more_mono {X b i j : Nat} (hij : i ≤ j) (h : decide (X < b * (i + 1)) = true) : decide (X < b * (j + 1)) = true := by
  have h' : X < b * (i + 1) := by simpa using h
  have : b * (i + 1) ≤ b * (j + 1) := Nat.mul_le_mul_left _ (by omega)
  simp only [decide_eq_true_eq]; omega

/-- The quotient's row when the groups from k on are known. -/
def qrow (k : Nat) (z : List Nat) : Array Value := ((List.replicate k 0 ++ z).map dv).toArray
theorem qrow_get (k : Nat) (z : List Nat) : (qrow (k + 1) z)[k]? = some (dv 0) := by
  unfold qrow
  simp [List.getElem?_append]
theorem qrow_set (k c : Nat) (z : List Nat) : (qrow (k + 1) z).setIfInBounds k (dv c) = qrow k (c :: z) := by
  unfold qrow
  rw [List.replicate_succ', List.append_assoc]
  simp only [List.setIfInBounds_toArray, List.map_append, List.map_cons, List.singleton_append]
  rw [List.set_append, if_neg (by simp)]
  simp
theorem qrow_at (k c : Nat) (z : List Nat) : (qrow k (c :: z))[k]? = some (dv c) := by
  unfold qrow
  simp
theorem qrow_made (n : Nat) : madeCells #[.int .i64 0] n = qrow n [] := by
  unfold madeCells qrow
  apply Array.ext
  · simp
  · intro i h1 h2
    simp [Nat.mod_one]

/-- A block of cells. -/
def Blk (W : World) (g : Nat) (t : TypeId) (cs : Array Value) : Prop := W.heap[g]? = some (.cells cs t (0, 0))
theorem Blk.lt {W : World} {g : Nat} {t : TypeId} {cs : Array Value} (h : Blk W g t cs) : g < W.heap.size := (Array.getElem?_eq_some_iff.1 h).1
theorem Blk.cell {W : World} {g : Nat} {t : TypeId} {cs : Array Value} (h : Blk W g t cs) (i : Nat) : W.cell? ⟨g, i, none⟩ = cs[i]? := cell_of_row W g i cs t (0, 0) h
theorem Blk.frozen {W : World} {g : Nat} {t : TypeId} {cs : Array Value} (h : Blk W g t cs) (i : Nat) : W.frozen? ⟨g, i, none⟩ = false := by simp [World.frozen?, show W.heap[g]? = _ from h]
theorem Blk.below {W W' : World} {g : Nat} {t : TypeId} {cs : Array Value} (h : Blk W g t cs) (hb : Below W.heap.size W W') : Blk W' g t cs := (hb.block g h.lt).trans h
theorem Blk.far {W : World} {g : Nat} {t : TypeId} {cs : Array Value} (h : Blk W g t cs) {p : Addr} (hp : g ≠ p.block) (u : Value) : Blk (W.setCell p u) g t cs := (Below.heap_setCell W p u g hp).trans h
theorem Blk.set_ {W : World} {g : Nat} {t : TypeId} {cs : Array Value} (h : Blk W g t cs) (i : Nat) (u : Value) : Blk (W.setCell ⟨g, i, none⟩ u) g t (cs.setIfInBounds i u) := by
  unfold Blk at h ⊢
  simp [World.setCell, Array.getElem?_modify, h]
theorem Turns.blk {B g : Nat} {t : TypeId} {cs : Array Value} : Turns B (fun W => Blk W g t cs) := fun _ _ _ h hg hr => (hg.block g h.lt (fun e => by
  obtain ⟨_, o, ho, hc⟩ := hr g e.symm
  rw [show _ = _ from h] at ho; cases ho; cases hc)).trans h
theorem Boxed.far {W : World} {B : Nat} {t : TypeId} {v : Value} {p : Addr} (h : Boxed W B t v) (hp : B ≠ p.block) (u : Value) : Boxed (W.setCell p u) B t v := (Below.heap_setCell W p u B hp).trans h
theorem Turns.new {L B : Nat} {v : Value} {x : Nat} : Turns B (fun W => IsNew L W.heap.size W v x) := fun W W' row h hg hr => by
  obtain ⟨a, cap, e, hc, hrw, hf⟩ := h
  exact ⟨a, cap, e, hc, (hrw.kept hg (fun r e => (hr r e).2)).mono hg.size, hf⟩

theorem IsNew.set_far {L B : Nat} {W : World} {v : Value} {x : Nat} (h : IsNew L B W v x) {p : Addr} (hp : p.block < L) (u : Value) : IsNew L B (W.setCell p u) v x := by
  obtain ⟨a, cap, e, hc, hr, hf⟩ := h
  refine ⟨a, cap, e, hc, fun hl => ?_, hf⟩
  obtain ⟨b, o, ea, hb, hcell⟩ := hr hl
  have hL := hf hl _ ea
  exact ⟨b, o, ea, hb, fun j d hd => (World.cell?_of_block (a := ⟨b, o + j, none⟩) (Below.heap_setCell W p u b (by simp at hL; omega))).trans (hcell j d hd)⟩

/-- The loop's state: w: the world in which the call began; A: the round's first world; X: this one. -/
structure OvSt (w A X : World) (mv qv rv : Value) (R : Nat) (cs : Array Value) : Prop where
  st : Step w.heap.size (w.heap.size + 1 + 1 + 1 + 1) A X
  sz : w.heap.size + 1 + 1 + 1 + 1 < A.heap.size
  base : Below w.heap.size w A
  cM : Boxed X w.heap.size 92 mv
  cQ : Boxed X (w.heap.size + 1) 92 qv
  cR : Boxed X (w.heap.size + 1 + 1) 92 rv
  row : Blk X (w.heap.size + 1 + 1 + 1) 3 cs
  num : IsNew (w.heap.size + 1 + 1 + 1 + 1) X.heap.size X rv R

section
variable {w A X X' : World} {mv qv rv : Value} {R : Nat} {cs : Array Value}
theorem OvSt.below (h : OvSt w A X mv qv rv R cs) : Below w.heap.size w X := h.base.trans h.st.kp.1
theorem OvSt.call (h : OvSt w A X mv qv rv R cs) (hb : Below X.heap.size X X') : OvSt w A X' mv qv rv R cs :=
  ⟨h.st.call hb h.base.size h.sz, h.sz, h.base, Boxed.below h.cM hb, Boxed.below h.cQ hb, Boxed.below h.cR hb, h.row.below hb, h.num.later hb⟩
theorem OvSt.drew (h : OvSt w A X mv qv rv R cs) : OvSt w A X.drew mv qv rv R cs := ⟨h.st.drew, h.sz, h.base, h.cM, h.cQ, h.cR, h.row, h.num⟩
theorem OvSt.size (h : OvSt w A X mv qv rv R cs) : w.heap.size + 1 + 1 + 1 + 1 < X.heap.size := Nat.lt_of_lt_of_le h.sz h.st.size
theorem OvSt.setR (h : OvSt w A X mv qv rv R cs) {rv' : Value} {R' : Nat} (hn : IsNew (w.heap.size + 1 + 1 + 1 + 1) X.heap.size X rv' R') : OvSt w A (X.setCell ⟨w.heap.size + 1 + 1, 0, none⟩ rv') mv qv rv' R' cs :=
  ⟨h.st.set _ (by omega) (by omega), h.sz, h.base, Boxed.far h.cM (by simp; omega) _, Boxed.far h.cQ (by simp) _, h.cR.set _, h.row.far (by simp) _, by rw [setCell_size]; exact hn.set_far (by simp) _⟩
theorem OvSt.setQ (h : OvSt w A X mv qv rv R cs) (k : Nat) (u : Value) : OvSt w A (X.setCell ⟨w.heap.size + 1 + 1 + 1, k, none⟩ u) mv qv rv R (cs.setIfInBounds k u) :=
  ⟨h.st.trans ⟨KeepsOthers.setCell _ _ _, ⟨(Below.refl _ _).setCell (p := ⟨w.heap.size + 1 + 1 + 1, k, none⟩) (by simp; omega) u, World.cell?_of_block (a := ⟨w.heap.size + 1 + 1 + 1 + 1, 0, none⟩) (Below.heap_setCell X ⟨w.heap.size + 1 + 1 + 1, k, none⟩ u _ (by simp))⟩, by rw [setCell_size]; exact Nat.le_refl _⟩,
    h.sz, h.base, Boxed.far h.cM (by simp; omega) _, Boxed.far h.cQ (by simp) _, Boxed.far h.cR (by simp) _, h.row.set_ k u, by rw [setCell_size]; exact h.num.set_far (by simp) _⟩
theorem OvSt.alloc (h : OvSt w A X mv qv rv R cs) (o : Obj) : OvSt w A (X.alloc o) mv qv rv R cs := h.call ((Below.refl _ _).alloc (Nat.le_refl _) o)
end

/-- The loop's word between two rounds. -/
def OvI (w : World) (mv qv : Value) (a b k : Nat) (W : World) : Prop :=
  ∃ (z : List Nat) (rv : Value), ((Boxed W w.heap.size 92 mv ∧ Boxed W (w.heap.size + 1) 92 qv) ∧ (Boxed W (w.heap.size + 1 + 1) 92 rv ∧ Blk W (w.heap.size + 1 + 1 + 1) 3 (qrow k z))) ∧
    (IsNew (w.heap.size + 1 + 1 + 1 + 1) W.heap.size W rv (Num.hi a k % b) ∧ Below w.heap.size w W) ∧ Hid (z.length + k = Num.gl a ∧ Num.Dig z ∧ Num.val z = Num.hi a k / b)
theorem OvI.turns {w : World} {mv qv : Value} {a b k B : Nat} (hB : w.heap.size ≤ B) : Turns B (OvI w mv qv a b k) :=
  Turns.ex fun _ => Turns.ex fun _ => Turns.and (Turns.and (Turns.and Turns.boxed Turns.boxed) (Turns.and Turns.boxed Turns.blk)) (Turns.and (Turns.and Turns.new (Turns.below (Nat.le_refl _) hB)) Turns.const)

theorem OvI.state {w W : World} {mv qv : Value} {a b k : Nat} (h : OvI w mv qv a b k W) (hs : w.heap.size + 1 + 1 + 1 + 1 < W.heap.size) :
    ∃ (z : List Nat) (rv : Value), OvSt w W W mv qv rv (Num.hi a k % b) (qrow k z) ∧ Hid (z.length + k = Num.gl a ∧ Num.Dig z ∧ Num.val z = Num.hi a k / b) := by
  obtain ⟨z, rv, ⟨⟨h1, h2⟩, h3, h4⟩, ⟨h5, h6⟩, h7⟩ := h
  exact ⟨z, rv, ⟨Step.refl W, hs, h6, h1, h2, h3, h4, h5⟩, h7⟩
theorem OvSt.word {w A X : World} {mv qv rv : Value} {a b k d c R : Nat} {z : List Nat} (h : OvSt w A X mv qv rv R (qrow k (c :: z))) (hb : 0 < b) (hd : d < 10000) (hS : Num.hi a k = d + 10000 * Num.hi a (k + 1))
    (hz : z.length + (k + 1) = Num.gl a ∧ Num.Dig z ∧ Num.val z = Num.hi a (k + 1) / b) (hc : c = (d + 10000 * (Num.hi a (k + 1) % b)) / b) (hR : R = d + 10000 * (Num.hi a (k + 1) % b) - b * c) (B : Nat) :
    KeepsFrom B A X ∧ KpB w.heap.size (w.heap.size + 1 + 1 + 1 + 1) A X ∧ OvI w mv qv a b k X := by
  refine ⟨h.st.keeps.from _, h.st.kp, c :: z, rv, ⟨⟨h.cM, h.cQ⟩, h.cR, h.row⟩, ⟨?_, h.below⟩, ?_, ?_, ?_⟩
  · have e : Num.hi a k % b = R := by
      rw [hS, mod_step, hR, hc]
      have := Nat.div_add_mod (d + 10000 * (Num.hi a (k + 1) % b)) b
      omega
    rw [e]
    exact h.num
  · have := hz.1; simp; omega
  · intro x hx
    rcases List.mem_cons.1 hx with rfl | hx
    · rw [hc]; exact digit_step hb hd
    · exact hz.2.1 x hx
  · show c + 10000 * Num.val z = _
    rw [hz.2.2, hS, div_step hb, hc]
    omega
end Go.Proofs.YtkihodadopcioaaGreatDoor
