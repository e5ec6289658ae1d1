/- Words for numbers in memory: a slice value that reads as the groups of a number; the contract of 'at'. -/
import Derived.Test.YtkihodadopcioaaGreatDoorProg
import Derived.Test.YtkihodadopcioaaGreatDoorNum
import Derived.WalkKit
import Derived.Outline
import Derived.Below
import Derived.Lib.Hide
import Derived.Deep.QuietTactic
import Derived.BigQuiet
import Derived.Deep.RegionWith
import Derived.Laws.OwnMore
import Derived.Deep.Draws
namespace Go.Proofs.YtkihodadopcioaaGreatDoor
open Go.RowKit

/-- A digit as a value. -/
abbrev dv (d : Nat) : Value := .int .i64 (d : Int)

/-- From the address a on the cells read as the groups l, in a block below B. -/
def Row (B : Nat) (w : World) (a : Option Addr) (l : List Nat) : Prop :=
  l ≠ [] → ∃ b o, a = some ⟨b, o, none⟩ ∧ b < B ∧ ∀ j d, l[j]? = some d → w.cell? ⟨b, o + j, none⟩ = some (dv d)

theorem Row.nil {B : Nat} {w : World} {a : Option Addr} : Row B w a [] := fun h => absurd rfl h
theorem Row.keep {B : Nat} {w w' : World} {a : Option Addr} {l : List Nat} (h : Row B w a l) (hk : ∀ p : Addr, p.block < B → w'.cell? p = w.cell? p) : Row B w' a l := fun hl => by
  obtain ⟨b, o, e, hb, hc⟩ := h hl
  exact ⟨b, o, e, hb, fun j d hd => (hk ⟨b, o + j, none⟩ hb).trans (hc j d hd)⟩
theorem Row.below {B : Nat} {w w' : World} {a : Option Addr} {l : List Nat} (h : Row B w a l) (hb : Below B w w') : Row B w' a l := h.keep fun p hp => hb.cell (p := p) hp
theorem Row.mono {B B' : Nat} {w : World} {a : Option Addr} {l : List Nat} (h : Row B w a l) (hB : B ≤ B') : Row B' w a l := fun hl => by
  obtain ⟨b, o, e, hb, hc⟩ := h hl
  exact ⟨b, o, e, by omega, hc⟩
theorem Row.take {B : Nat} {w : World} {a : Option Addr} {l : List Nat} (h : Row B w a l) (k : Nat) : Row B w a (l.take k) := fun hl => by
  obtain ⟨b, o, e, hb, hc⟩ := h (by intro h0; subst h0; simp at hl)
  refine ⟨b, o, e, hb, fun j d hd => hc j d ?_⟩
  rw [List.getElem?_take] at hd
  split at hd
  · exact hd
  · cases hd

/-- The slice value v reads as the groups of n, in blocks below B. -/
def IsNum (B : Nat) (w : World) (v : Value) (n : Nat) : Prop :=
  ∃ a cap, v = .slice a (Num.gl n) cap ∧ Num.gl n ≤ cap ∧ Row B w a (Num.grp n)

theorem IsNum.below {B : Nat} {w w' : World} {v : Value} {n : Nat} (h : IsNum B w v n) (hb : Below B w w') : IsNum B w' v n := by
  obtain ⟨a, cap, e, hc, hr⟩ := h
  exact ⟨a, cap, e, hc, hr.below hb⟩
theorem IsNum.mono {B B' : Nat} {w : World} {v : Value} {n : Nat} (h : IsNum B w v n) (hB : B ≤ B') : IsNum B' w v n := by
  obtain ⟨a, cap, e, hc, hr⟩ := h
  exact ⟨a, cap, e, hc, hr.mono hB⟩
/-- What was a number below the heap's size stays one, whatever the call makes. -/
theorem IsNum.later {w w' : World} {v : Value} {n : Nat} (h : IsNum w.heap.size w v n) (hb : Below w.heap.size w w') : IsNum w'.heap.size w' v n := (h.below hb).mono hb.size

/-- The row from a on, if there is one, lies in a block from L on. -/
def Frs (L : Nat) (a : Option Addr) (l : List Nat) : Prop := l ≠ [] → ∀ p, a = some p → L ≤ p.block
/-- A number whose row lies in a block from L on. -/
def IsNew (L B : Nat) (w : World) (v : Value) (n : Nat) : Prop :=
  ∃ a cap, v = .slice a (Num.gl n) cap ∧ Num.gl n ≤ cap ∧ Row B w a (Num.grp n) ∧ Frs L a (Num.grp n)
theorem IsNew.num {L B : Nat} {w : World} {v : Value} {n : Nat} (h : IsNew L B w v n) : IsNum B w v n := by
  obtain ⟨a, cap, e, hc, hr, _⟩ := h
  exact ⟨a, cap, e, hc, hr⟩
theorem IsNew.below {L B : Nat} {w w' : World} {v : Value} {n : Nat} (h : IsNew L B w v n) (hb : Below B w w') : IsNew L B w' v n := by
  obtain ⟨a, cap, e, hc, hr, hf⟩ := h
  exact ⟨a, cap, e, hc, hr.below hb, hf⟩
theorem IsNew.later {L : Nat} {w w' : World} {v : Value} {n : Nat} (h : IsNew L w.heap.size w v n) (hb : Below w.heap.size w w') : IsNew L w'.heap.size w' v n := by
  obtain ⟨a, cap, e, hc, hr, hf⟩ := h.below hb
  exact ⟨a, cap, e, hc, hr.mono hb.size, hf⟩
theorem IsNew.from {L L' B : Nat} {w : World} {v : Value} {n : Nat} (h : IsNew L B w v n) (hL : L' ≤ L) : IsNew L' B w v n := by
  obtain ⟨a, cap, e, hc, hr, hf⟩ := h
  exact ⟨a, cap, e, hc, hr, fun hl p hp => Nat.le_trans hL (hf hl p hp)⟩

/-- The group at an index, 0 beyond the end. -/
def dig (n i : Nat) : Nat := (Num.grp n)[i]?.getD 0
theorem dig_lt (n i : Nat) : dig n i < 10000 := by
  unfold dig
  cases h : (Num.grp n)[i]? with
  | none => simp
  | some d => exact Num.grp_dig n d (List.mem_of_getElem? h)
theorem dig_beyond {n i : Nat} (h : Num.gl n ≤ i) : dig n i = 0 := by
  unfold dig
  rw [List.getElem?_eq_none (by exact h)]; rfl

set_option maxHeartbeats 400000 in
theorem at_row (b o len cap i d : Nat) (w : World) (hi : i < len) (hc : w.cell? ⟨b, o + i, none⟩ = some (dv d)) :
    Calls Tryz.prog 133 #[.slice (some ⟨b, o, none⟩) len cap, .int .i64 (i : Int)] w fun e w' => e = .returned (dv d) ∧ w = w' := by
  go_enter Tryz.func133, Tryz.ntmps133
  go_wp2
  go_ret
  exact ⟨rfl, rfl⟩

set_option maxHeartbeats 400000 in
theorem at_beyond (a : Option Addr) (len cap i : Nat) (w : World) (hi : ¬ i < len) :
    Calls Tryz.prog 133 #[.slice a len cap, .int .i64 (i : Int)] w fun e w' => e = .returned (dv 0) ∧ w = w' := by
  go_enter Tryz.func133, Tryz.ntmps133
  go_wp2
  go_ret
  exact ⟨rfl, rfl⟩

/-- 'at': the group, or 0. -/
theorem at_any (B : Nat) (w : World) (v : Value) (n i : Nat) (h : IsNum B w v n) :
    Calls Tryz.prog 133 #[v, .int .i64 (i : Int)] w fun e w' => e = .returned (dv (dig n i)) ∧ w = w' := by
  obtain ⟨a, cap, rfl, hc, hr⟩ := h
  by_cases hi : i < Num.gl n
  · obtain ⟨b, o, rfl, hb, hcell⟩ := hr (fun h0 => by unfold Num.gl at hi; rw [h0] at hi; simp at hi)
    have hd : (Num.grp n)[i]? = some (dig n i) := by
      unfold dig
      rw [List.getElem?_eq_getElem (by exact hi)]; rfl
    exact at_row b o _ cap i _ w hi (hcell i _ hd)
  · rw [dig_beyond (by omega)]
    exact at_beyond a _ cap i w hi
/-- The same for a region that draws its order. -/
theorem at_quiet (B : Nat) (w : World) (v : Value) (n i : Nat) (h : IsNum B w v n) :
    Calls Tryz.prog 133 #[v, .int .i64 (i : Int)] w fun e w' => e = .returned (dv (dig n i)) ∧ w' = w :=
  (at_any B w v n i h).mono fun _ _ ⟨he, hw⟩ => ⟨he, hw.symm⟩

end Go.Proofs.YtkihodadopcioaaGreatDoor
