/- Mul: on texts. -/
import Derived.Test.YtkihodadopcioaaGreatDoorStr
import Derived.Test.YtkihodadopcioaaGreatDoorArith
namespace Go.Proofs.YtkihodadopcioaaGreatDoor
open Go.RowKit Go.Shelf

theorem sig_mul (x y : Int) : sig (decide (x < 0) != decide (y < 0)) (x.natAbs * y.natAbs) = x * y := by
  have h := natAbs_sig (x := x)
  have k := natAbs_sig (x := y)
  generalize x.natAbs = a at *
  generalize y.natAbs = b at *
  generalize decide (x < 0) = g at *
  generalize decide (y < 0) = g' at *
  subst h k
  cases g <;> cases g' <;> simp [sig, Int.mul_neg, Int.neg_mul]
theorem gl_prod {a b : Nat} (ha : Num.gl a ≤ 50) (hb : Num.gl b ≤ 50) : Num.gl (a * b) ≤ 1000000 := by
  have := Num.gl_mul a b
  omega

set_option maxRecDepth 100000 in
set_option maxHeartbeats 4000000 in
theorem mul_any (x y : Int) (w : World) (hx : x.natAbs < 10 ^ 200) (hy : y.natAbs < 10 ^ 200) (ht : Tab w) :
    Calls Tryz.prog 19 #[txt (Lib.itoa x), txt (Lib.itoa y)] w fun e w' => e = .returned (ires (x * y)) ∧ Below w.heap.size w w' := by
  have HB := both_yes x y w hx hy
  have HT := Lib.hid ht
  clear ht
  have gx := gl_200 hx
  have gy := gl_200 hy
  obtain ⟨rl, rk, hr⟩ := ires_form (x * y)
  have HR := Lib.hid hr
  clear hr
  have HS := Lib.hid (sig_mul x y)
  generalize decide (x < 0) = g1 at HB HS
  generalize decide (y < 0) = g2 at HB HS
  generalize x.natAbs = n at HB HS gx hx
  generalize y.natAbs = m at HB HS gy hy
  generalize Lib.itoa x = lx at HB ⊢
  generalize Lib.itoa y = ly at HB ⊢
  clear hx hy
  obtain ⟨gb, hgb⟩ : ∃ gb, (g1 != g2) = gb := ⟨_, rfl⟩
  rw [hgb] at HS
  have hgb1 : (!(g1 == g2)) = gb := by rw [← hgb]; rfl
  have hgb2 : ((!g1) == g2) = gb := by rw [← hgb]; cases g1 <;> cases g2 <;> rfl
  clear hgb
  go_enter Tryz.func19, Tryz.ntmps19
  go_wp2_with fail
  refine HB.mono ?_
  rintro e w1 ⟨⟨u, v, rfl, ⟨uv, rfl, hu⟩, ⟨vv, rfl, hv⟩⟩, hb1⟩
  have hP := bpair_is w1 g1 g2 uv vv
  have hun := hu.later hP.below
  have hvn := hv.later hP.below
  have hT1 := Lib.hid (HT.out.later (hb1.trans (hP.below.mono hb1.size)))
  have hB1 := Lib.hid (hb1.trans (hP.below.mono hb1.size))
  obtain ⟨W, hW⟩ : ∃ W, W = bpair w1 g1 g2 uv vv := ⟨_, rfl⟩
  rw [← hW] at hP hun hvn hT1 hB1
  have GM := Lib.hid (times_any W.drew uv vv n m (by omega) (by omega) hun hvn)
  have hlw := hP.fst.lt
  clear hun hvn
  have hT2 : Hid (Tab W.drew) := Lib.hid hT1.out
  obtain ⟨ua, uc, rfl, -, -⟩ := hu
  obtain ⟨va, vc, rfl, -, -⟩ := hv
  have hsz : w1.heap.size + 1 < W.heap.size := hP.snd.lt
  have p0 := hP.fst.cell0
  have p1 := hP.fst.cell1
  have q0 := hP.snd.cell0
  have q1 := hP.snd.cell1
  have hfst : Boxed2 W.drew _ _ _ _ := hP.fst
  have hsnd : Boxed2 W.drew _ _ _ _ := hP.snd
  unfold bpair at hW
  clear HB hP
  go_wp2_with fail
  rw [← hW]
  clear hW
  go_region_with (first
    | (go_at_call 71; refine GM.out.mono ?_; rintro e w2 ⟨⟨mv, rfl, hm⟩, hb2⟩; have p02 := (hfst.below hb2).cell0; have q02 := (hsnd.below hb2).cell0; have GT := Lib.hid (text_any w2 (.agg #[.bool gb, mv]) gb (n * m) (gl_prod gx gy) (hT2.out.later hb2) ⟨mv, rfl, hm⟩); rw [HS.out, HR.out] at GT; obtain ⟨ma, mc, rfl, -, -⟩ := hm)
    | (go_at_call 70; refine GT.out.mono ?_; rintro e w3 ⟨rfl, hb3⟩))
  all_goals go_wp2
  all_goals refine bodyPost_ret (v := .tuple #[txt rl, .int .i64 rk]) ?_ rfl ⟨by rw [HR.out], (hB1.out.drew.trans (hb2.mono hB1.out.size)).trans (hb3.mono (Nat.le_trans hB1.out.size hb2.size))⟩
  all_goals simp [results, Tryz.results19, go_sem]
end Go.Proofs.YtkihodadopcioaaGreatDoor
