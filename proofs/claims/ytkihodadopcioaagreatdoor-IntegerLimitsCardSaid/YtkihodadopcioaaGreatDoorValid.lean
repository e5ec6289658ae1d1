/- isValid: a text is a numeral, or it is refused. -/
import Derived.Test.YtkihodadopcioaaGreatDoorShelf
import Derived.Test.YtkihodadopcioaaGreatDoorDec
import Derived.Test.YtkihodadopcioaaGreatDoorBase
import Derived.Shelf.Strings.SlTrimAscii
import Derived.BigQuiet
namespace Go.Proofs.YtkihodadopcioaaGreatDoor
open Go.Shelf Go.RowKit

theorem trimPrefix_minus (l : List UInt8) : Lib.trimPrefix l [45] = Dec.unsign l := by
  unfold Lib.trimPrefix Lib.hasPrefix Dec.unsign
  cases l with
  | nil => rfl
  | cons b l =>
    by_cases h : b = 45
    · subst h; simp
    · simp [h, Ne.symm h]

def digitBytes : List UInt8 := [48, 49, 50, 51, 52, 53, 54, 55, 56, 57]
theorem digit_mem (b : UInt8) : digitBytes.contains b = decide (Dec.IsDigit b) := by
  have h : ∀ n : Fin 256, digitBytes.contains (UInt8.ofNat n.1) = decide (Dec.IsDigit (UInt8.ofNat n.1)) := by decide +kernel
  have := h ⟨b.toNat, b.toNat_lt⟩
  simpa using this
theorem trimS_nil (l : List UInt8) : Lib.trimS l digitBytes = [] ↔ l.all (fun b => decide (Dec.IsDigit b)) = true := by
  have e : (fun b => digitBytes.contains b) = fun b => decide (Dec.IsDigit b) := funext digit_mem
  unfold Lib.trimS Lib.trimLeftS Lib.trimRightS
  rw [e]
  have hd : ∀ (p : UInt8 → Bool) (m : List UInt8), m.dropWhile p = [] ↔ m.all p = true := by
    intro p m
    induction m with
    | nil => simp
    | cons b m ih =>
      by_cases hb : p b = true
      · simp [hb, ih]
      · simp [hb]
  rw [hd]
  constructor
  · intro h
    have h1 : (l.reverse.dropWhile fun b => decide (Dec.IsDigit b)) = [] := by
      cases hc : l.reverse.dropWhile (fun b => decide (Dec.IsDigit b)) with
      | nil => rfl
      | cons b m =>
        rw [hc, List.all_reverse] at h
        have h2 : decide (Dec.IsDigit b) = true := by
          rw [List.all_eq_true] at h
          exact h b List.mem_cons_self
        have h3 := List.head?_dropWhile_not (fun b => decide (Dec.IsDigit b)) l.reverse
        rw [hc] at h3
        simp only [List.head?_cons] at h3
        rw [h2] at h3
        exact absurd h3 (by decide)
    rw [hd, List.all_reverse] at h1
    exact h1
  · intro h
    have h1 := (hd (fun b => decide (Dec.IsDigit b)) l.reverse).2 (by rw [List.all_reverse]; exact h)
    rw [h1]
    rfl

theorem trim_digits (s : ByteArray) (w : World) (hs : s.size ≤ 9223372036854775807) :
    Calls Tryz.prog 128 #[.string s, .string { data := #[48, 49, 50, 51, 52, 53, 54, 55, 56, 57] }] w fun e w' => e = .returned (.string ⟨(Lib.trimS s.data.toList digitBytes).toArray⟩) ∧ Below w.heap.size w w' :=
  Any.strings_Trim_laid Tryz.lays160 (by kernel_rfl) s ⟨#[48, 49, 50, 51, 52, 53, 54, 55, 56, 57]⟩ w hs (by decide) (ascii_of_all (by decide))

set_option maxRecDepth 100000 in
set_option maxHeartbeats 1000000 in
theorem valid_any (s : ByteArray) (w : World) (hs : s.size ≤ 140737488355328) :
    Calls Tryz.prog 73 #[.string s] w fun e w' => e = .returned (.bool (Dec.vld s.data.toList)) ∧ Below w.heap.size w w' := by
  have HT : ∀ W, Calls Tryz.prog 127 #[.string s, .string { data := #[45] }] W fun e w' => e = .returned (.string ⟨(Dec.unsign s.data.toList).toArray⟩) ∧ w' = W := fun W => by
    rw [← trimPrefix_minus]
    exact Tryz.strings_TrimPrefix s ⟨#[45]⟩ W
  have hv : Hid (Dec.vld s.data.toList = ((decide (Dec.unsign s.data.toList ≠ []) && decide ((Dec.unsign s.data.toList).length ≤ 200) && (Dec.unsign s.data.toList).all (fun b => decide (Dec.IsDigit b))) && (decide (s.data.toList = [48]) || decide ((Dec.unsign s.data.toList).head? ≠ some 48)))) := rfl
  have hul : (Dec.unsign s.data.toList).length ≤ s.size := by
    rw [Lib.size_eq]
    unfold Dec.unsign
    split <;> simp
  generalize Dec.unsign s.data.toList = u at HT hv hul
  generalize Dec.vld s.data.toList = r at hv ⊢
  have HD : ∀ W, Calls Tryz.prog 128 #[.string ⟨u.toArray⟩, .string { data := #[48, 49, 50, 51, 52, 53, 54, 55, 56, 57] }] W fun e w' => (∃ t, e = .returned (.string ⟨t.toArray⟩) ∧ (t = [] ↔ u.all (fun b => decide (Dec.IsDigit b)) = true)) ∧ Below W.heap.size W w' := fun W => by
    refine (trim_digits _ W (by rw [Lib.size_eq]; simp; omega)).mono ?_
    rintro e w' ⟨rfl, hb⟩
    exact ⟨⟨_, rfl, by simpa using trimS_nil u⟩, hb⟩
  by_cases h0 : u = []
  · subst h0
    go_enter Tryz.func73, Tryz.ntmps73
    go_wp2_with (go_at_call 127; refine (HT _).mono ?_; rintro e w1 ⟨rfl, rfl⟩)
    go_ret
    exact ⟨by rw [hv.out]; simp, Below.refl _ _⟩
  by_cases h1 : 200 < u.length
  · go_enter Tryz.func73, Tryz.ntmps73
    go_wp2_with (go_at_call 127; refine (HT _).mono ?_; rintro e w1 ⟨rfl, rfl⟩)
    go_ret
    exact ⟨by rw [hv.out]; simp; omega, Below.refl _ _⟩
  obtain ⟨c, u, rfl⟩ : ∃ c m, u = c :: m := List.exists_cons_of_ne_nil h0
  go_enter Tryz.func73, Tryz.ntmps73
  go_wp2_with (first
    | (go_at_call 127; refine (HT _).mono ?_; rintro e w1 ⟨rfl, rfl⟩)
    | (go_at_call 128; refine (HD _).mono ?_; rintro e w1 ⟨⟨t, rfl, ht⟩, hb⟩))
  all_goals go_ret
  · rename_i h2
    refine ⟨?_, hb⟩
    have : ¬ t = [] := by rintro rfl; simp at h2; omega
    have h3 : ¬ ((c :: u).all fun b => decide (Dec.IsDigit b)) = true := fun e => this (ht.2 e)
    rw [hv.out, Bool.eq_false_iff.2 h3]
    simp
  · rename_i h2 h3
    refine ⟨?_, hb⟩
    have h4 := ht.1 (by simpa using h2.2)
    rw [hv.out, h4]
    simp only [ByteArray.toList_eq] at h3
    simp [h3]
    omega
  · rename_i h2 h3
    refine ⟨?_, hb⟩
    have h4 := ht.1 (by simpa using h2.2)
    rw [hv.out, h4]
    rw [ByteArray.toList_eq] at h3
    have h5 : ¬ 200 < u.length + 1 := by simpa using h1
    show Ending.returned (Value.bool (s.toList == [48] || ((c.toNat : Int) != 48))) = _
    have e : ((c.toNat : Int) != 48) = decide (c ≠ 48) := by
      by_cases hc : c = 48
      · subst hc; rfl
      · have : ¬ ((c.toNat : Int) = 48) := fun e => hc (UInt8.toNat_inj.1 (by show c.toNat = 48; omega))
        simp [hc, this]
    rw [e, ByteArray.toList_eq]
    simp [h3, show u.length ≤ 199 by omega]
  · rename_i h2
    simp at h1
    omega

/-- Valid, too. -/
theorem valid_ex (s : ByteArray) (w : World) (hs : s.size ≤ 140737488355328) :
    Calls Tryz.prog 21 #[.string s] w fun e w' => e = .returned (.bool (Dec.vld s.data.toList)) ∧ Below w.heap.size w w' := by
  go_enter Tryz.func21, Tryz.ntmps21
  go_wp2_with (go_at_call 73; refine (valid_any _ _ hs).mono ?_; rintro e w1 ⟨rfl, hb⟩)
  go_ret
  exact ⟨rfl, hb⟩
end Go.Proofs.YtkihodadopcioaaGreatDoor
