/- 'trimmed': what is left when the zeros at the end are left out. -/
import Derived.Test.YtkihodadopcioaaGreatDoorBase
import Derived.LoopTactic
import Derived.Deep.LoopGhost
namespace Go.Proofs.YtkihodadopcioaaGreatDoor
open Go.RowKit

set_option maxHeartbeats 400000 in
theorem trimmed_at (B : Nat) (w : World) (a : Option Addr) (l : List Nat) (cap : Nat) (hd : Num.Dig l) (hcap : l.length ≤ cap) (hlen : l.length ≤ 1000000000) (h : Row B w a l) :
    Calls Tryz.prog 129 #[.slice a l.length cap] w fun e w' => (∃ k, e = .returned (.slice a k cap) ∧ IsNum B w (.slice a k cap) (Num.val l)) ∧ w = w' := by
  have HF : ∀ k, k ≤ l.length → Num.val (l.take k) = Num.val l → (k = 0 ∨ ∃ d, l[k - 1]? = some d ∧ d ≠ 0) → IsNum B w (.slice a k cap) (Num.val l) := by
    intro k hk hv hz
    have e := Num.grp_of_take hd hk hv hz
    have e2 : Num.gl (Num.val l) = k := by unfold Num.gl; rw [e, List.length_take]; omega
    exact ⟨a, cap, by rw [e2], by omega, by rw [e]; exact h.take k⟩
  have GF := Lib.hid HF
  have GV := fun k => Lib.hid (@Num.val_take_pred l k)
  clear HF hd
  obtain ⟨n, hn⟩ : ∃ n, n = l.length := ⟨_, rfl⟩
  have GN := Lib.hid hn
  rw [← hn] at hcap hlen ⊢
  clear hn
  go_enter Tryz.func129, Tryz.ntmps129
  go_wp2
  go_loopg [0] n (fun kx s wr => s = .slice a kx cap ∧ wr = w ∧ kx ≤ n ∧ Hid (Num.val (l.take kx) = Num.val l))
  case atStart => exact ⟨rfl, rfl, Nat.le_refl _, Lib.hid (by rw [GN.out, List.take_length])⟩
  case round =>
    obtain ⟨rfl, rfl, hk, HV⟩ := hrel
    by_cases h0 : 0 < gk
    · obtain ⟨d, hd⟩ : ∃ d, l[gk - 1]? = some d := ⟨l[gk - 1]'(by have := GN.out; omega), List.getElem?_eq_getElem _⟩
      obtain ⟨b, o, rfl, hb, hc⟩ := h (by intro e; rw [e] at hd; simp at hd)
      have hc1 := hc _ _ hd
      have GD := Lib.hid hd
      clear hc hd h
      by_cases hz : d = 0
      · subst hz
        go_wp2
        go_roundg (gk - 1)
        case measure => omega
        case rel => exact ⟨by go_num, rfl, by omega, Lib.hid ((GV (gk - 1)).out GD.out ▸ (by rw [show gk - 1 + 1 = gk by omega]; exact HV.out))⟩
      · have hz' : ((d : Int) == 0) = false := by simpa using hz
        go_wp2
        go_ret
        exact ⟨⟨_, rfl, GF.out gk (by have := GN.out; omega) HV.out (.inr ⟨d, GD.out, hz⟩)⟩, rfl⟩
    · obtain rfl : gk = 0 := by omega
      go_wp2
      go_ret
      exact ⟨⟨_, rfl, GF.out 0 (by omega) HV.out (.inl rfl)⟩, rfl⟩

theorem trimmed_any (B : Nat) (w : World) (a : Option Addr) (l : List Nat) (cap : Nat) (hd : Num.Dig l) (hcap : l.length ≤ cap) (hlen : l.length ≤ 1000000000) (h : Row B w a l) :
    Calls Tryz.prog 129 #[.slice a l.length cap] w fun e w' => (∃ v, e = .returned v ∧ IsNum B w v (Num.val l)) ∧ w = w' :=
  (trimmed_at B w a l cap hd hcap hlen h).mono fun _ _ ⟨⟨_, he, hn⟩, hw⟩ => ⟨⟨_, he, hn⟩, hw⟩

/-- The same, where the row lies in a block from L on. -/
theorem trimmed_new (L B : Nat) (w : World) (a : Option Addr) (l : List Nat) (cap : Nat) (hd : Num.Dig l) (hcap : l.length ≤ cap) (hlen : l.length ≤ 1000000000) (h : Row B w a l) (hf : Frs L a l) :
    Calls Tryz.prog 129 #[.slice a l.length cap] w fun e w' => (∃ v, e = .returned v ∧ IsNew L B w v (Num.val l)) ∧ w = w' := by
  refine (trimmed_at B w a l cap hd hcap hlen h).mono ?_
  rintro e w' ⟨⟨k, he, a', cap', hv, hc, hr⟩, hw⟩
  injection hv with h1 h2 h3
  subst h1
  refine ⟨⟨_, he, a, cap', ?_, hc, hr, fun hl p hp => hf (fun e0 => ?_) p hp⟩, hw⟩
  · rw [h2, h3]
  · subst e0
    exact hl Num.grp_zero
end Go.Proofs.YtkihodadopcioaaGreatDoor
