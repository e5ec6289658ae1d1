/- 'fold': groups one after the other, with a carry that is passed on, at whatever closure gives the digits. -/
import Derived.Test.YtkihodadopcioaaGreatDoorBase
import Derived.LoopTactic
import Derived.Deep.LoopGhost
import Derived.OwnWalk
import Derived.Maps.AppendAt
namespace Go.Proofs.YtkihodadopcioaaGreatDoor
open Go.RowKit

theorem int_info : (Tryz.prog.info? 3).map (fun i => (i.zero, i.size, i.bytes)) = some (some (.int .i64 0), 1, 8) := by kernel_rfl

/-- A row of the call's own reads as its groups. -/
theorem row_of_own {w : World} {base e n : Nat} {v : Value} {l : List Nat} (h : w.ownsRow base e 1 v n (l.map dv)) :
    ∃ a cap, v = .slice a l.length cap ∧ l.length ≤ cap ∧ Row w.heap.size w a l ∧ Frs base a l := by
  have hn : l.length = n := by have := h.1; simpa using this
  rcases h.2 with ⟨rfl, h0⟩ | ⟨g, cap, cur, rfl, hg, hh, hcap, _⟩
  · have : l = [] := List.eq_nil_of_length_eq_zero (by omega)
    subst this
    exact ⟨none, 0, rfl, Nat.le_refl _, Row.nil, fun h => absurd rfl h⟩
  · refine ⟨some ⟨g, 0, none⟩, cap, by rw [hn], by omega, fun _ => ⟨g, 0, rfl, (Array.getElem?_eq_some_iff.1 hh).1, fun j d hd => ?_⟩, fun _ p hp => by cases hp; exact hg⟩
    have hc := h.cells (g := g) rfl j (dv d) (by rw [List.getElem?_map, hd]; rfl)
    rw [Nat.zero_add]
    have hadd : (⟨g, 0, none⟩ : Addr).add j = ⟨g, j, none⟩ := by
      unfold Addr.add
      split <;> simp_all
    rwa [hadd] at hc

theorem fold_next {w wr w2 : World} {q k r : Nat} {o : List Nat} {u v' : Value} {X : Obj} {s : Int} (hbr : Below w.heap.size w wr) (hown : wr.ownsRow w.heap.size 3 1 u k (o.map dv))
    (hown' : w2.ownsRow w.heap.size 3 1 v' (k + 1) (o.map dv ++ [.int .i64 s])) (hg : ((wr.drewN q).alloc X).grownBy w2 u.ownBlock) (hr : s = (r : Int)) :
    w2.ownsRow w.heap.size 3 1 v' (k + 1) ((o ++ [r]).map dv) ∧ Below w.heap.size w w2 := by
  subst hr
  refine ⟨by simpa using hown', ?_⟩
  have hb : Below w.heap.size w ((wr.drewN q).alloc X) := Below.alloc (w := wr.drewN q) ⟨hbr.os, hbr.tape, hbr.output, hbr.size, hbr.block⟩ hbr.size X
  exact hb.grown hg hb.size (fun j hj => (hown.lt j hj).1)

set_option maxRecDepth 100000 in
set_option maxHeartbeats 1000000 in
theorem fold_any (w : World) (g : Nat) (cb : Array Value) (n : Nat) (dg : Nat → Int) (hn : n ≤ 1000000000)
    (eg : ∀ args w, (callFunc g args).run Tryz.prog w = .ok (.enter g args) w)
    (hd : ∀ (i : Nat) (W : World), i ≤ n → Below w.heap.size w W → Calls Tryz.prog g (#[.int .i64 (i : Int)] ++ cb) W fun e W' => e = .returned (.int .i64 (dg i)) ∧ ∃ q, W' = W.drewN q)
    (hb1 : ∀ i, -9999 ≤ dg i) (hb2 : ∀ i, dg i ≤ 99980001) (hz : ∀ i, n ≤ i → dg i = 0) (ht : 0 ≤ Num.tot dg 0 n) :
    Calls Tryz.prog 131 #[.int .i64 (n : Int), .int .i64 0, .func (.func g) #[] cb] w fun e w' =>
      ∃ a l cap, e = .returned (.slice a l.length cap) ∧ Num.Dig l ∧ l.length ≤ cap ∧ l.length ≤ n + 1 ∧ (Num.val l : Int) = Num.tot dg 0 n ∧ Row w'.heap.size w' a l ∧ Frs w.heap.size a l ∧ Below w.heap.size w w' := by
  obtain ⟨i0, hi, hz0, hz1, hz2⟩ := info_parts int_info
  have GD := Lib.hid hd
  have G1 := Lib.hid hb1
  have G2 := Lib.hid hb2
  have GS := fun i c c' o r => Lib.hid (@Num.FoldInv.step dg n i c c' o r)
  have GZ := Lib.hid hz
  have GT := Lib.hid ht
  clear hd hb1 hb2 hz ht
  go_enter Tryz.func131, Tryz.ntmps131
  go_wp2_with (at_make; refine wpList_make_own _ rfl _ _ 92 rfl w.heap.size 3 i0 (.int .i64 0) 1 Tryz.underlying92 hi hz0 hz1 _ _ _ (n + 1) rfl rfl (by omega) ?b2 ?b3 (Nat.le_refl _) ?_)
  case b2 => rw [hz2]; omega
  case b3 => unfold maxLen; omega
  intro w1 hown hg
  have hbw : Below w.heap.size w w1 := (Below.refl _ _).grown hg (Nat.le_refl _) (by simp)
  go_wp2
  go_loopg [1, 7, 8] (n + 2) (fun kx c v i wr => ∃ (k : Nat) (cc : Int) (o : List Nat), c = .int .i64 cc ∧ i = .int .i64 k ∧ kx = n + 2 - k ∧ wr.ownsRow w.heap.size 3 1 v k (o.map dv) ∧ Below w.heap.size w wr ∧ Hid (Num.FoldInv dg n k cc o))
  case atStart => exact ⟨0, 0, [], rfl, rfl, rfl, hown, hbw, Lib.hid (Num.FoldInv.start dg n)⟩
  case round =>
    obtain ⟨k, cc, o, rfl, rfl, hkx, hown, hbr, HI⟩ := hrel
    have hk1 : k ≤ n + 1 := HI.out.2.2.1
    have hc1 : -1 ≤ cc := HI.out.2.2.2.1
    have hc2 : cc ≤ 9999 := HI.out.2.2.2.2.1
    by_cases hgo : k < n ∨ cc ≠ 0
    · have hkn : k ≤ n := by
        rcases hgo with h | h
        · omega
        · by_cases h8 : n + 1 ≤ k
          · exact absurd (HI.out.2.2.2.2.2.1 h8) h
          · omega
      have hcall := GD.out k wr hkn hbr
      have hx1 := G1.out k
      have hx2 := G2.out k
      have HS := fun c' r => GS k cc c' o r
      have HZ := Lib.hid (GZ.out k)
      obtain ⟨x, hx⟩ : ∃ x, x = dg k := ⟨_, rfl⟩
      rw [← hx] at hcall hx1 hx2
      have GX := Lib.hid hx.symm
      have GC := Lib.hid hcall
      have GO := Lib.hid hgo
      clear hcall hx hgo
      rcases (show k < n ∨ (¬ k < n ∧ (cc != 0) = true) from (by by_cases h : k < n; · exact .inl h
                                                                 · exact .inr ⟨h, by simpa using GO.out.resolve_left h⟩)) with hkn' | ⟨hkn', hcc⟩
      · rcases (show x + cc < 0 ∨ (¬ x + cc < 0 ∧ x + cc < 10000) ∨ (10000 ≤ x + cc) by omega) with hs1 | ⟨hs1, hs2⟩ | hs2
        · go_wp2_with fail
          refine GC.out.mono ?_
          rintro e w' ⟨rfl, q, rfl⟩
          go_wp2_with ((at_builtin; refine wpList_append_own _ rfl _ _ 92 rfl w.heap.size 3 i0 (.int .i64 0) 1 8 Tryz.underlying92 hi hz0 hz1 hz2 rfl (by decide) _ _ _ rfl (hown.alloc _) ⟨wr.heap.size, 0, none⟩ 1 1 [.int .i64 (x + cc + 10000)] rfl rfl (cell_one_new _ _ _) (by simp [Value.oneCell']) (by unfold maxLen; omega) (by omega) (by have := hbr.size; simp; omega) ?_))
          intro v' w2 hown' hgrow _
          have R := fold_next (r := (x + cc + 10000).toNat) hbr hown hown' hgrow (by omega)
          clear hown' hgrow hown
          go_wp2
          go_roundg (n + 2 - (k + 1))
          case measure => omega
          case rel => exact ⟨k + 1, -1, o ++ [(x + cc + 10000).toNat], rfl, by go_num, rfl, R.1, R.2, Lib.hid ((HS _ _).out HI.out HZ.out GT.out GO.out (by rw [GX.out]; omega) (by omega) (by omega) (by omega))⟩
        · go_wp2_with fail
          refine GC.out.mono ?_
          rintro e w' ⟨rfl, q, rfl⟩
          go_wp2_with ((at_builtin; refine wpList_append_own _ rfl _ _ 92 rfl w.heap.size 3 i0 (.int .i64 0) 1 8 Tryz.underlying92 hi hz0 hz1 hz2 rfl (by decide) _ _ _ rfl (hown.alloc _) ⟨wr.heap.size, 0, none⟩ 1 1 [.int .i64 (x + cc)] rfl rfl (cell_one_new _ _ _) (by simp [Value.oneCell']) (by unfold maxLen; omega) (by omega) (by have := hbr.size; simp; omega) ?_))
          intro v' w2 hown' hgrow _
          have R := fold_next (r := (x + cc).toNat) hbr hown hown' hgrow (by omega)
          clear hown' hgrow hown
          go_wp2
          go_roundg (n + 2 - (k + 1))
          case measure => omega
          case rel => exact ⟨k + 1, 0, o ++ [(x + cc).toNat], rfl, by go_num, rfl, R.1, R.2, Lib.hid ((HS _ _).out HI.out HZ.out GT.out GO.out (by rw [GX.out]; omega) (by omega) (by omega) (by omega))⟩
        · go_wp2_with fail
          refine GC.out.mono ?_
          rintro e w' ⟨rfl, q, rfl⟩
          go_wp2_with ((at_builtin; refine wpList_append_own _ rfl _ _ 92 rfl w.heap.size 3 i0 (.int .i64 0) 1 8 Tryz.underlying92 hi hz0 hz1 hz2 rfl (by decide) _ _ _ rfl (hown.alloc _) ⟨wr.heap.size, 0, none⟩ 1 1 [.int .i64 ((x + cc) % 10000)] rfl rfl (cell_one_new _ _ _) (by simp [Value.oneCell']) (by unfold maxLen; omega) (by omega) (by have := hbr.size; simp; omega) ?_))
          intro v' w2 hown' hgrow _
          have R := fold_next (r := ((x + cc) % 10000).toNat) hbr hown hown' hgrow (by omega)
          clear hown' hgrow hown
          go_wp2
          go_roundg (n + 2 - (k + 1))
          case measure => omega
          case rel => exact ⟨k + 1, (x + cc) / 10000, o ++ [((x + cc) % 10000).toNat], rfl, by go_num, rfl, R.1, R.2, Lib.hid ((HS _ _).out HI.out HZ.out GT.out GO.out (by rw [GX.out]; omega) (by omega) (by omega) (by omega))⟩
      · rcases (show x + cc < 0 ∨ (¬ x + cc < 0 ∧ x + cc < 10000) ∨ (10000 ≤ x + cc) by omega) with hs1 | ⟨hs1, hs2⟩ | hs2
        · go_wp2_with fail
          refine GC.out.mono ?_
          rintro e w' ⟨rfl, q, rfl⟩
          go_wp2_with ((at_builtin; refine wpList_append_own _ rfl _ _ 92 rfl w.heap.size 3 i0 (.int .i64 0) 1 8 Tryz.underlying92 hi hz0 hz1 hz2 rfl (by decide) _ _ _ rfl (hown.alloc _) ⟨wr.heap.size, 0, none⟩ 1 1 [.int .i64 (x + cc + 10000)] rfl rfl (cell_one_new _ _ _) (by simp [Value.oneCell']) (by unfold maxLen; omega) (by omega) (by have := hbr.size; simp; omega) ?_))
          intro v' w2 hown' hgrow _
          have R := fold_next (r := (x + cc + 10000).toNat) hbr hown hown' hgrow (by omega)
          clear hown' hgrow hown
          go_wp2
          go_roundg (n + 2 - (k + 1))
          case measure => omega
          case rel => exact ⟨k + 1, -1, o ++ [(x + cc + 10000).toNat], rfl, by go_num, rfl, R.1, R.2, Lib.hid ((HS _ _).out HI.out HZ.out GT.out GO.out (by rw [GX.out]; omega) (by omega) (by omega) (by omega))⟩
        · go_wp2_with fail
          refine GC.out.mono ?_
          rintro e w' ⟨rfl, q, rfl⟩
          go_wp2_with ((at_builtin; refine wpList_append_own _ rfl _ _ 92 rfl w.heap.size 3 i0 (.int .i64 0) 1 8 Tryz.underlying92 hi hz0 hz1 hz2 rfl (by decide) _ _ _ rfl (hown.alloc _) ⟨wr.heap.size, 0, none⟩ 1 1 [.int .i64 (x + cc)] rfl rfl (cell_one_new _ _ _) (by simp [Value.oneCell']) (by unfold maxLen; omega) (by omega) (by have := hbr.size; simp; omega) ?_))
          intro v' w2 hown' hgrow _
          have R := fold_next (r := (x + cc).toNat) hbr hown hown' hgrow (by omega)
          clear hown' hgrow hown
          go_wp2
          go_roundg (n + 2 - (k + 1))
          case measure => omega
          case rel => exact ⟨k + 1, 0, o ++ [(x + cc).toNat], rfl, by go_num, rfl, R.1, R.2, Lib.hid ((HS _ _).out HI.out HZ.out GT.out GO.out (by rw [GX.out]; omega) (by omega) (by omega) (by omega))⟩
        · go_wp2_with fail
          refine GC.out.mono ?_
          rintro e w' ⟨rfl, q, rfl⟩
          go_wp2_with ((at_builtin; refine wpList_append_own _ rfl _ _ 92 rfl w.heap.size 3 i0 (.int .i64 0) 1 8 Tryz.underlying92 hi hz0 hz1 hz2 rfl (by decide) _ _ _ rfl (hown.alloc _) ⟨wr.heap.size, 0, none⟩ 1 1 [.int .i64 ((x + cc) % 10000)] rfl rfl (cell_one_new _ _ _) (by simp [Value.oneCell']) (by unfold maxLen; omega) (by omega) (by have := hbr.size; simp; omega) ?_))
          intro v' w2 hown' hgrow _
          have R := fold_next (r := ((x + cc) % 10000).toNat) hbr hown hown' hgrow (by omega)
          clear hown' hgrow hown
          go_wp2
          go_roundg (n + 2 - (k + 1))
          case measure => omega
          case rel => exact ⟨k + 1, (x + cc) / 10000, o ++ [((x + cc) % 10000).toNat], rfl, by go_num, rfl, R.1, R.2, Lib.hid ((HS _ _).out HI.out HZ.out GT.out GO.out (by rw [GX.out]; omega) (by omega) (by omega) (by omega))⟩
    · have hkn' : ¬ k < n := fun h => hgo (.inl h)
      obtain rfl : cc = 0 := by
        by_cases h : cc = 0
        · exact h
        · exact absurd (.inr h) hgo
      go_wp2
      go_ret
      obtain ⟨a, cap, hv, hcap, hrow, hfr⟩ := row_of_own hown
      exact ⟨a, o, cap, by rw [hv]; rfl, HI.out.2.1, hcap, by have := HI.out.1; omega, HI.out.done (by omega), hrow, hfr, hbr⟩
end Go.Proofs.YtkihodadopcioaaGreatDoor
