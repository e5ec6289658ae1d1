/- Sums, differences and products with one group, of absolute values. -/
import Derived.Test.YtkihodadopcioaaGreatDoorDigits
import Derived.Test.YtkihodadopcioaaGreatDoorTrim
import Derived.Test.YtkihodadopcioaaGreatDoorFold
import Derived.Shelf.Abstract
namespace Go.Proofs.YtkihodadopcioaaGreatDoor
open Go.RowKit

theorem tot_dig {a n : Nat} (h : Num.gl a ≤ n) : Num.tot (fun i => (dig a i : Int)) 0 n = a := by
  have := Num.tot_list (Num.grp a) n h
  rw [Num.val_grp] at this
  exact this

/-- The call of a closure: the machine enters it. -/
theorem enters_plus1 : ∀ args w, (callFunc 132 args).run Tryz.prog w = .ok (.enter 132 args) w := enters_of Tryz.func132 (by kernel_rfl) rfl
theorem enters_minus1 : ∀ args w, (callFunc 134 args).run Tryz.prog w = .ok (.enter 134 args) w := enters_of Tryz.func134 (by kernel_rfl) rfl
theorem enters_by1 : ∀ args w, (callFunc 162 args).run Tryz.prog w = .ok (.enter 162 args) w := enters_of Tryz.func162 (by kernel_rfl) rfl

/-- Two values boxed: the world ahead of the fold. -/
def boxes2 (w : World) (v1 v2 : Value) (t1 t2 : Nat) : World := (w.alloc (.cells #[v1] t1)).alloc (.cells #[v2] t2)
theorem size_boxes2 (w : World) (v1 v2 : Value) (t1 t2 : Nat) : (boxes2 w v1 v2 t1 t2).heap.size = w.heap.size + 2 := by unfold boxes2; simp
theorem below_boxes2 (w : World) (v1 v2 : Value) (t1 t2 : Nat) : Below w.heap.size w (boxes2 w v1 v2 t1 t2) := ((Below.refl _ _).alloc (Nat.le_refl _) _).alloc (by simp) _
theorem cell_boxes2 (w : World) (v1 v2 : Value) (t1 t2 : Nat) : (boxes2 w v1 v2 t1 t2).cell? ⟨w.heap.size, 0, none⟩ = some v1 ∧ (boxes2 w v1 v2 t1 t2).cell? ⟨w.heap.size + 1, 0, none⟩ = some v2 := by
  unfold boxes2
  constructor
  · rw [World.cell?_alloc_past _ _ _ (by simp), World.cell?_alloc_at _ _ _ _ rfl]; rfl
  · rw [World.cell?_alloc_at _ _ _ _ (by simp)]; rfl

/-- What a fold over two boxes comes to: groups that stand for T. -/
def FoldsTo (g n : Nat) (w : World) (v1 v2 : Value) (t1 t2 T : Nat) : Prop :=
  Calls Tryz.prog 131 #[.int .i64 (n : Int), .int .i64 0, .func (.func g) #[] #[.pointer (some ⟨w.heap.size, 0, none⟩), .pointer (some ⟨w.heap.size + 1, 0, none⟩)]] (boxes2 w v1 v2 t1 t2) fun e w' =>
    ∃ a l cap, e = .returned (.slice a l.length cap) ∧ Num.Dig l ∧ l.length ≤ cap ∧ l.length ≤ 1000000000 ∧ Num.val l = T ∧ Row w'.heap.size w' a l ∧ Frs w.heap.size a l ∧ Below w.heap.size w w'

theorem folds_to (g n : Nat) (w : World) (v1 v2 : Value) (t1 t2 T : Nat) (dg : Nat → Int) (hn : n ≤ 100000000)
    (eg : ∀ args w, (callFunc g args).run Tryz.prog w = .ok (.enter g args) w)
    (hd : ∀ (i : Nat) (W : World), W.cell? ⟨w.heap.size, 0, none⟩ = some v1 → W.cell? ⟨w.heap.size + 1, 0, none⟩ = some v2 → Below w.heap.size w W →
      Calls Tryz.prog g #[.int .i64 (i : Int), .pointer (some ⟨w.heap.size, 0, none⟩), .pointer (some ⟨w.heap.size + 1, 0, none⟩)] W fun e W' => e = .returned (.int .i64 (dg i)) ∧ ∃ q, W' = W.drewN q)
    (hb1 : ∀ i, -9999 ≤ dg i) (hb2 : ∀ i, dg i ≤ 99980001) (hz : ∀ i, n ≤ i → dg i = 0) (ht : Num.tot dg 0 n = T) : FoldsTo g n w v1 v2 t1 t2 T := by
  have hB := below_boxes2 w v1 v2 t1 t2
  have hC := cell_boxes2 w v1 v2 t1 t2
  have hS := size_boxes2 w v1 v2 t1 t2
  have HF := fold_any (boxes2 w v1 v2 t1 t2) g #[.pointer (some ⟨w.heap.size, 0, none⟩), .pointer (some ⟨w.heap.size + 1, 0, none⟩)] n dg (by omega) eg
    (fun i W _ hW => hd i W ((hW.cell (p := ⟨w.heap.size, 0, none⟩) (by rw [hS]; simp)).trans hC.1) ((hW.cell (p := ⟨w.heap.size + 1, 0, none⟩) (by rw [hS]; simp)).trans hC.2) (hB.trans (hW.mono (by omega)))) hb1 hb2 hz (by omega)
  refine HF.mono ?_
  rintro e w' ⟨a, l, cap, he, h1, h2, h3, h4, h5, h7, h6⟩
  exact ⟨a, l, cap, he, h1, h2, by omega, by omega, h5, fun hl p hp => Nat.le_trans (by omega) (h7 hl p hp), hB.trans (h6.mono (by omega))⟩

set_option maxHeartbeats 400000 in
theorem plus_walk (w : World) (c1 c2 la lb m : Nat) (a1 a2 : Option Addr) (T : Nat) (hm : Hid (m = max la lb))
    (HF : Hid (FoldsTo 132 m w (.slice a1 la c1) (.slice a2 lb c2) 92 92 T)) :
    Calls Tryz.prog 79 #[.slice a1 la c1, .slice a2 lb c2] w fun e w' => (∃ v, e = .returned v ∧ IsNum w'.heap.size w' v T) ∧ Below w.heap.size w w' := by
  by_cases hle : la < lb
  · obtain rfl : m = lb := by have := hm.out; omega
    go_enter Tryz.func79, Tryz.ntmps79
    go_wp2_with fail
    refine HF.out.mono ?_
    rintro e w1 ⟨a, l, cap, rfl, hd, hcap, hlen, hT, hrow, hfr, hb⟩
    have GB := Lib.hid hb
    have GT := Lib.hid hT
    have HT := Lib.hid (trimmed_any w1.heap.size w1 a l cap hd hcap hlen hrow)
    clear hb hT hd hcap hlen hrow hfr
    go_wp2_with fail
    refine HT.out.mono ?_
    rintro e w2 ⟨⟨v, rfl, hv⟩, rfl⟩
    have GV := Lib.hid hv
    clear hv
    go_wp2
    go_ret
    exact ⟨⟨v, rfl, GT.out ▸ GV.out⟩, GB.out⟩
  · obtain rfl : m = la := by have := hm.out; omega
    go_enter Tryz.func79, Tryz.ntmps79
    go_wp2_with fail
    refine HF.out.mono ?_
    rintro e w1 ⟨a, l, cap, rfl, hd, hcap, hlen, hT, hrow, hfr, hb⟩
    have GB := Lib.hid hb
    have GT := Lib.hid hT
    have HT := Lib.hid (trimmed_any w1.heap.size w1 a l cap hd hcap hlen hrow)
    clear hb hT hd hcap hlen hrow hfr
    go_wp2_with fail
    refine HT.out.mono ?_
    rintro e w2 ⟨⟨v, rfl, hv⟩, rfl⟩
    have GV := Lib.hid hv
    clear hv
    go_wp2
    go_ret
    exact ⟨⟨v, rfl, GT.out ▸ GV.out⟩, GB.out⟩

theorem plus_any (w : World) (v1 v2 : Value) (a b : Nat) (ha : Num.gl a ≤ 10000000) (hb : Num.gl b ≤ 10000000) (h1 : IsNum w.heap.size w v1 a) (h2 : IsNum w.heap.size w v2 b) :
    Calls Tryz.prog 79 #[v1, v2] w fun e w' => (∃ v, e = .returned v ∧ IsNum w'.heap.size w' v (a + b)) ∧ Below w.heap.size w w' := by
  have HF : FoldsTo 132 (max (Num.gl a) (Num.gl b)) w v1 v2 92 92 (a + b) :=
    folds_to _ _ w v1 v2 _ _ _ (fun i => (dig a i : Int) + (dig b i : Int)) (by omega) enters_plus1 (fun i W c1 c2 hW => plus_digit w.heap.size _ _ i v1 v2 a b W c1 c2 (h1.below hW) (h2.below hW))
      (fun i => by have := dig_lt a i; have := dig_lt b i; omega) (fun i => by have := dig_lt a i; have := dig_lt b i; omega)
      (fun i hi => by rw [dig_beyond (show Num.gl a ≤ i by omega), dig_beyond (show Num.gl b ≤ i by omega)]; rfl)
      (by rw [Num.tot_add, tot_dig (Nat.le_max_left _ _), tot_dig (Nat.le_max_right _ _)]; omega)
  obtain ⟨a1, c1, rfl, hc1, r1⟩ := h1
  obtain ⟨a2, c2, rfl, hc2, r2⟩ := h2
  exact plus_walk w c1 c2 _ _ _ a1 a2 _ (Lib.hid rfl) (Lib.hid HF)

set_option maxHeartbeats 400000 in
theorem minus_walk (w : World) (c1 c2 la lb : Nat) (a1 a2 : Option Addr) (T : Nat)
    (HF : Hid (FoldsTo 134 la w (.slice a1 la c1) (.slice a2 lb c2) 92 92 T)) :
    Calls Tryz.prog 81 #[.slice a1 la c1, .slice a2 lb c2] w fun e w' => (∃ v, e = .returned v ∧ IsNew w.heap.size w'.heap.size w' v T) ∧ Below w.heap.size w w' := by
    go_enter Tryz.func81, Tryz.ntmps81
    go_wp2_with fail
    refine HF.out.mono ?_
    rintro e w1 ⟨a, l, cap, rfl, hd, hcap, hlen, hT, hrow, hfr, hb⟩
    have GB := Lib.hid hb
    have GT := Lib.hid hT
    have HT := Lib.hid (trimmed_new w.heap.size w1.heap.size w1 a l cap hd hcap hlen hrow hfr)
    clear hb hT hd hcap hlen hrow hfr
    go_wp2_with fail
    refine HT.out.mono ?_
    rintro e w2 ⟨⟨v, rfl, hv⟩, rfl⟩
    have GV := Lib.hid hv
    clear hv
    go_wp2
    go_ret
    exact ⟨⟨v, rfl, GT.out ▸ GV.out⟩, GB.out⟩

theorem minus_new (w : World) (v1 v2 : Value) (a b : Nat) (ha : Num.gl a ≤ 10000000) (hab : b ≤ a) (h1 : IsNum w.heap.size w v1 a) (h2 : IsNum w.heap.size w v2 b) :
    Calls Tryz.prog 81 #[v1, v2] w fun e w' => (∃ v, e = .returned v ∧ IsNew w.heap.size w'.heap.size w' v (a - b)) ∧ Below w.heap.size w w' := by
  have hl := Num.gl_mono hab
  have HF : FoldsTo 134 (Num.gl a) w v1 v2 92 92 (a - b) :=
    folds_to _ _ w v1 v2 _ _ _ (fun i => (dig a i : Int) - (dig b i : Int)) (by omega) enters_minus1 (fun i W c1 c2 hW => minus_digit w.heap.size _ _ i v1 v2 a b W c1 c2 (h1.below hW) (h2.below hW))
      (fun i => by have := dig_lt a i; have := dig_lt b i; omega) (fun i => by have := dig_lt a i; have := dig_lt b i; omega)
      (fun i hi => by rw [dig_beyond (show Num.gl a ≤ i by omega), dig_beyond (show Num.gl b ≤ i by omega)]; rfl)
      (by rw [Num.tot_sub, tot_dig (Nat.le_refl _), tot_dig hl]; omega)
  obtain ⟨a1, c1, rfl, hc1, r1⟩ := h1
  obtain ⟨a2, c2, rfl, hc2, r2⟩ := h2
  exact minus_walk w c1 c2 _ _ a1 a2 _ (Lib.hid HF)
theorem minus_any (w : World) (v1 v2 : Value) (a b : Nat) (ha : Num.gl a ≤ 10000000) (hab : b ≤ a) (h1 : IsNum w.heap.size w v1 a) (h2 : IsNum w.heap.size w v2 b) :
    Calls Tryz.prog 81 #[v1, v2] w fun e w' => (∃ v, e = .returned v ∧ IsNum w'.heap.size w' v (a - b)) ∧ Below w.heap.size w w' :=
  (minus_new w v1 v2 a b ha hab h1 h2).mono fun _ _ ⟨⟨v, he, hn⟩, hw⟩ => ⟨⟨v, he, hn.num⟩, hw⟩

set_option maxHeartbeats 400000 in
theorem by_walk (w : World) (c1 la k : Nat) (a1 : Option Addr) (T : Nat)
    (HF : Hid (FoldsTo 162 la w (.slice a1 la c1) (.int .i64 (k : Int)) 92 3 T)) :
    Calls Tryz.prog 125 #[.slice a1 la c1, .int .i64 (k : Int)] w fun e w' => (∃ v, e = .returned v ∧ IsNum w'.heap.size w' v T) ∧ Below w.heap.size w w' := by
    go_enter Tryz.func125, Tryz.ntmps125
    go_wp2_with fail
    refine HF.out.mono ?_
    rintro e w1 ⟨a, l, cap, rfl, hd, hcap, hlen, hT, hrow, hfr, hb⟩
    have GB := Lib.hid hb
    have GT := Lib.hid hT
    have HT := Lib.hid (trimmed_any w1.heap.size w1 a l cap hd hcap hlen hrow)
    clear hb hT hd hcap hlen hrow hfr
    go_wp2_with fail
    refine HT.out.mono ?_
    rintro e w2 ⟨⟨v, rfl, hv⟩, rfl⟩
    have GV := Lib.hid hv
    clear hv
    go_wp2
    go_ret
    exact ⟨⟨v, rfl, GT.out ▸ GV.out⟩, GB.out⟩

theorem by_any (w : World) (v1 : Value) (a k : Nat) (ha : Num.gl a ≤ 10000000) (hk : k < 10000) (h1 : IsNum w.heap.size w v1 a) :
    Calls Tryz.prog 125 #[v1, .int .i64 (k : Int)] w fun e w' => (∃ v, e = .returned v ∧ IsNum w'.heap.size w' v (a * k)) ∧ Below w.heap.size w w' := by
  have HF : FoldsTo 162 (Num.gl a) w v1 (.int .i64 (k : Int)) 92 3 (a * k) :=
    folds_to _ _ w v1 _ _ _ _ (fun i => (dig a i : Int) * (k : Int)) (by omega) enters_by1 (fun i W c1 c2 hW => by_digit w.heap.size _ _ i v1 a k W c1 c2 hk (h1.below hW))
      (fun i => by have := Int.mul_nonneg (Int.natCast_nonneg (dig a i)) (Int.natCast_nonneg k); omega)
      (fun i => by have : dig a i * k ≤ 9999 * 9999 := Nat.mul_le_mul (Nat.le_of_lt_succ (dig_lt a i)) (Nat.le_of_lt_succ hk); rw [← Int.natCast_mul]; omega)
      (fun i hi => by rw [dig_beyond hi]; simp)
      (by rw [Num.tot_mul, tot_dig (Nat.le_refl _), Int.natCast_mul])
  obtain ⟨a1, c1, rfl, hc1, r1⟩ := h1
  exact by_walk w c1 _ k a1 _ (Lib.hid HF)
end Go.Proofs.YtkihodadopcioaaGreatDoor
