/- Add, Sub: on texts. -/
import Derived.Test.YtkihodadopcioaaGreatDoorText
import Derived.Test.YtkihodadopcioaaGreatDoorSigned
namespace Go.Proofs.YtkihodadopcioaaGreatDoor
open Go.RowKit Go.Shelf

/-- Two structs boxed by the caller of 'both'. -/
def bpair (w : World) (g1 g2 : Bool) (v1 v2 : Value) : World := (w.alloc (.cells #[.bool g1, v1] 94)).alloc (.cells #[.bool g2, v2] 94)
structure BPair (w W : World) (g1 g2 : Bool) (v1 v2 : Value) : Prop where
  fst : Boxed2 W w.heap.size 94 (.bool g1) v1
  snd : Boxed2 W (w.heap.size + 1) 94 (.bool g2) v2
  below : Below w.heap.size w W
theorem bpair_is (w : World) (g1 g2 : Bool) (v1 v2 : Value) : BPair w (bpair w g1 g2 v1 v2) g1 g2 v1 v2 := by
  have b1 := (Boxed2.new w 94 (.bool g1) v1).alloc (.cells #[.bool g2, v2] 94)
  have b2 := Boxed2.new (w.alloc (.cells #[.bool g1, v1] 94)) 94 (.bool g2) v2
  simp only [World.size_alloc] at b2
  exact ⟨b1, b2, ((Below.refl _ w).alloc (Nat.le_refl _) _).alloc (by simp) _⟩

theorem natAbs_sig {x : Int} : sig (decide (x < 0)) x.natAbs = x := by
  unfold sig
  by_cases h : x < 0
  · simp only [h, decide_true, if_true]; omega
  · simp only [h, decide_false]; show (x.natAbs : Int) = x; omega
theorem natAbs_sig_not {x : Int} : sig (!(decide (x < 0))) x.natAbs = -x := by
  unfold sig
  by_cases h : x < 0
  · simp only [h, decide_true]; show (x.natAbs : Int) = -x; omega
  · simp only [h, decide_false]; show -(x.natAbs : Int) = -x; omega
theorem gl_200 {n : Nat} (h : n < 10 ^ 200) : Num.gl n ≤ 50 := Num.gl_le.2 (by rw [show (10000 : Nat) ^ 50 = 10 ^ 200 by decide +kernel]; exact h)

theorem ires_form (z : Int) : ∃ l k, ires z = .tuple #[txt l, .int .i64 k] := by
  unfold ires
  split
  · exact ⟨_, _, rfl⟩
  · exact ⟨_, _, rfl⟩
theorem gl_sum {a b N : Nat} (ha : Num.gl a ≤ 50) (hb : Num.gl b ≤ 50) (hN : N ≤ a + b) : Num.gl N ≤ 1000000 := by
  have h1 := Num.gl_mono hN
  have h2 := Num.gl_add a b
  omega

set_option maxRecDepth 100000 in
set_option maxHeartbeats 2000000 in
theorem add_any (x y : Int) (w : World) (hx : x.natAbs < 10 ^ 200) (hy : y.natAbs < 10 ^ 200) (ht : Tab w) :
    Calls Tryz.prog 16 #[txt (Lib.itoa x), txt (Lib.itoa y)] w fun e w' => e = .returned (ires (x + y)) ∧ Below w.heap.size w w' := by
  have HB := both_yes x y w hx hy
  have HT := Lib.hid ht
  clear ht
  have gx := gl_200 hx
  have gy := gl_200 hy
  go_enter Tryz.func16, Tryz.ntmps16
  go_wp2_with fail
  refine HB.mono ?_
  rintro e w1 ⟨⟨u, v, rfl, ⟨uv, rfl, hu⟩, ⟨vv, rfl, hv⟩⟩, hb1⟩
  have hP := bpair_is w1 (decide (x < 0)) (decide (y < 0)) uv vv
  have hun := hu.later hP.below
  have hvn := hv.later hP.below
  have GS := Lib.hid (splus_any _ (.agg #[.bool (decide (x < 0)), uv]) (.agg #[.bool (decide (y < 0)), vv]) (decide (x < 0)) (decide (y < 0)) x.natAbs y.natAbs (by omega) (by omega) ⟨uv, rfl, hun⟩ ⟨vv, rfl, hvn⟩)
  rw [natAbs_sig, natAbs_sig] at GS
  have hT1 := Lib.hid (HT.out.later (hb1.trans (hP.below.mono hb1.size)))
  have hB1 := Lib.hid (hb1.trans (hP.below.mono hb1.size))
  clear hun hvn
  obtain ⟨ua, uc, rfl, -, -⟩ := hu
  obtain ⟨va, vc, rfl, -, -⟩ := hv
  unfold bpair at GS hT1 hB1 hP
  clear hP HB
  go_wp2_with fail
  refine GS.out.mono ?_
  rintro e w2 ⟨⟨g, N, v, rfl, hv, hsum, hN⟩, hb2⟩
  have GT := Lib.hid (text_any w2 v g N (gl_sum gx gy hN) (hT1.out.later hb2) hv)
  rw [hsum] at GT
  obtain ⟨rl, rk, hr⟩ := ires_form (x + y)
  rw [hr] at GT
  have HR := Lib.hid hr
  clear hr
  go_wp2_with fail
  refine GT.out.mono ?_
  rintro e w3 ⟨rfl, hb3⟩
  have hB := (hB1.out.trans (hb2.mono hB1.out.size)).trans (hb3.mono (Nat.le_trans hB1.out.size hb2.size))
  go_wp2
  refine bodyPost_ret (v := .tuple #[txt rl, .int .i64 rk]) ?_ rfl ⟨by rw [HR.out], hB⟩
  simp [results, Tryz.results16, go_sem]

set_option maxRecDepth 100000 in
set_option maxHeartbeats 2000000 in
theorem sub_any (x y : Int) (w : World) (hx : x.natAbs < 10 ^ 200) (hy : y.natAbs < 10 ^ 200) (ht : Tab w) :
    Calls Tryz.prog 17 #[txt (Lib.itoa x), txt (Lib.itoa y)] w fun e w' => e = .returned (ires (x - y)) ∧ Below w.heap.size w w' := by
  have HB := both_yes x y w hx hy
  have HT := Lib.hid ht
  clear ht
  have gx := gl_200 hx
  have gy := gl_200 hy
  go_enter Tryz.func17, Tryz.ntmps17
  go_wp2_with fail
  refine HB.mono ?_
  rintro e w1 ⟨⟨u, v, rfl, ⟨uv, rfl, hu⟩, ⟨vv, rfl, hv⟩⟩, hb1⟩
  have hP := bpair_is w1 (decide (x < 0)) (!(decide (y < 0))) uv vv
  have hun := hu.later hP.below
  have hvn := hv.later hP.below
  have GS := Lib.hid (splus_any _ (.agg #[.bool (decide (x < 0)), uv]) (.agg #[.bool (!(decide (y < 0))), vv]) (decide (x < 0)) (!(decide (y < 0))) x.natAbs y.natAbs (by omega) (by omega) ⟨uv, rfl, hun⟩ ⟨vv, rfl, hvn⟩)
  rw [natAbs_sig, natAbs_sig_not, ← Int.sub_eq_add_neg] at GS
  have hT1 := Lib.hid (HT.out.later (hb1.trans (hP.below.mono hb1.size)))
  have hB1 := Lib.hid (hb1.trans (hP.below.mono hb1.size))
  clear hun hvn
  obtain ⟨ua, uc, rfl, -, -⟩ := hu
  obtain ⟨va, vc, rfl, -, -⟩ := hv
  unfold bpair at GS hT1 hB1 hP
  clear hP HB
  go_wp2_with fail
  refine GS.out.mono ?_
  rintro e w2 ⟨⟨g, N, v, rfl, hv, hsum, hN⟩, hb2⟩
  have GT := Lib.hid (text_any w2 v g N (gl_sum gx gy hN) (hT1.out.later hb2) hv)
  rw [hsum] at GT
  obtain ⟨rl, rk, hr⟩ := ires_form (x - y)
  rw [hr] at GT
  have HR := Lib.hid hr
  clear hr
  go_wp2_with fail
  refine GT.out.mono ?_
  rintro e w3 ⟨rfl, hb3⟩
  have hB := (hB1.out.trans (hb2.mono hB1.out.size)).trans (hb3.mono (Nat.le_trans hB1.out.size hb2.size))
  go_wp2
  refine bodyPost_ret (v := .tuple #[txt rl, .int .i64 rk]) ?_ rfl ⟨by rw [HR.out], hB⟩
  simp [results, Tryz.results17, go_sem]


set_option maxRecDepth 100000 in
set_option maxHeartbeats 2000000 in
theorem add_no (l m : List UInt8) (w : World) (hl : l.length ≤ 1000000) (hm : m.length ≤ 1000000) (hv : (Dec.vld l && Dec.vld m) = false) :
    Calls Tryz.prog 16 #[txt l, txt m] w fun e w' => e = .returned (.tuple #[txt [], .int .i64 30]) ∧ Below w.heap.size w w' := by
  have HB := both_no l m w hl hm hv
  go_enter Tryz.func16, Tryz.ntmps16
  go_wp2_with fail
  refine HB.mono ?_
  rintro e w1 ⟨rfl, hb1⟩
  have hP := bpair_is w1 false false (.slice none 0 0) (.slice none 0 0)
  have hB := hb1.trans (hP.below.mono hb1.size)
  unfold bpair at hB
  clear hP HB
  go_wp2
  refine bodyPost_ret (v := .tuple #[txt [], .int .i64 30]) ?_ rfl ⟨rfl, hB⟩
  simp [results, Tryz.results16, go_sem]

set_option maxRecDepth 100000 in
set_option maxHeartbeats 2000000 in
theorem sub_no (l m : List UInt8) (w : World) (hl : l.length ≤ 1000000) (hm : m.length ≤ 1000000) (hv : (Dec.vld l && Dec.vld m) = false) :
    Calls Tryz.prog 17 #[txt l, txt m] w fun e w' => e = .returned (.tuple #[txt [], .int .i64 30]) ∧ Below w.heap.size w w' := by
  have HB := both_no l m w hl hm hv
  go_enter Tryz.func17, Tryz.ntmps17
  go_wp2_with fail
  refine HB.mono ?_
  rintro e w1 ⟨rfl, hb1⟩
  have hP := bpair_is w1 false false (.slice none 0 0) (.slice none 0 0)
  have hB := hb1.trans (hP.below.mono hb1.size)
  unfold bpair at hB
  clear hP HB
  go_wp2
  refine bodyPost_ret (v := .tuple #[txt [], .int .i64 30]) ?_ rfl ⟨rfl, hB⟩
  simp [results, Tryz.results17, go_sem]

set_option maxRecDepth 100000 in
set_option maxHeartbeats 2000000 in
theorem mul_no (l m : List UInt8) (w : World) (hl : l.length ≤ 1000000) (hm : m.length ≤ 1000000) (hv : (Dec.vld l && Dec.vld m) = false) :
    Calls Tryz.prog 19 #[txt l, txt m] w fun e w' => e = .returned (.tuple #[txt [], .int .i64 30]) ∧ Below w.heap.size w w' := by
  have HB := both_no l m w hl hm hv
  go_enter Tryz.func19, Tryz.ntmps19
  go_wp2_with fail
  refine HB.mono ?_
  rintro e w1 ⟨rfl, hb1⟩
  have hP := bpair_is w1 false false (.slice none 0 0) (.slice none 0 0)
  have hB := hb1.trans (hP.below.mono hb1.size)
  unfold bpair at hB
  clear hP HB
  go_wp2
  refine bodyPost_ret (v := .tuple #[txt [], .int .i64 30]) ?_ rfl ⟨rfl, hB⟩
  simp [results, Tryz.results19, go_sem]

set_option maxRecDepth 100000 in
set_option maxHeartbeats 2000000 in
theorem gcd_no (l m : List UInt8) (w : World) (hl : l.length ≤ 1000000) (hm : m.length ≤ 1000000) (hv : (Dec.vld l && Dec.vld m) = false) :
    Calls Tryz.prog 28 #[txt l, txt m] w fun e w' => e = .returned (.tuple #[txt [], .int .i64 30]) ∧ Below w.heap.size w w' := by
  have HB := both_no l m w hl hm hv
  go_enter Tryz.func28, Tryz.ntmps28
  go_wp2_with fail
  refine HB.mono ?_
  rintro e w1 ⟨rfl, hb1⟩
  have hP := bpair_is w1 false false (.slice none 0 0) (.slice none 0 0)
  have hB := hb1.trans (hP.below.mono hb1.size)
  unfold bpair at hB
  clear hP HB
  go_wp2
  refine bodyPost_ret (v := .tuple #[txt [], .int .i64 30]) ?_ rfl ⟨rfl, hB⟩
  simp [results, Tryz.results28, go_sem]
end Go.Proofs.YtkihodadopcioaaGreatDoor
