/- Root and Div: on texts. -/
import Derived.Test.YtkihodadopcioaaGreatDoorStr
import Derived.Test.YtkihodadopcioaaGreatDoorOver
import Derived.Deep.LoopGhost
import Derived.Deep.OwnRows
import Derived.BigQuiet
import Derived.Deep.CutRange
namespace Go.Proofs.YtkihodadopcioaaGreatDoor
open Go.RowKit Go.Shelf

/-! ### Newton's steps, in plain numbers -/
theorem newton_up {n r : Nat} (hr : 0 < r) : n < ((r + n / r) / 2 + 1) * ((r + n / r) / 2 + 1) := by
  obtain ⟨q, hq⟩ : ∃ q, q = n / r := ⟨_, rfl⟩
  obtain ⟨s, hs⟩ : ∃ s, s = (r + q) / 2 := ⟨_, rfl⟩
  rw [← hq, ← hs]
  have h1 : n < r * (q + 1) := by rw [hq]; exact Nat.lt_mul_div_succ n hr
  have h2 : r + (q + 1) ≤ 2 * (s + 1) := by omega
  have h3 : (r + (q + 1)) * (r + (q + 1)) ≤ (2 * (s + 1)) * (2 * (s + 1)) := Nat.mul_le_mul h2 h2
  have h4 : 4 * (r * (q + 1)) ≤ (r + (q + 1)) * (r + (q + 1)) := by
    generalize q + 1 = t
    rcases Nat.le_total r t with h | h
    · obtain ⟨d, rfl⟩ := Nat.exists_eq_add_of_le h
      have : (r + (r + d)) * (r + (r + d)) = 4 * (r * (r + d)) + d * d := by
        simp only [Nat.mul_add, Nat.add_mul, Nat.mul_comm d r]; omega
      omega
    · obtain ⟨d, rfl⟩ := Nat.exists_eq_add_of_le h
      have : (t + d + t) * (t + d + t) = 4 * ((t + d) * t) + d * d := by
        simp only [Nat.mul_add, Nat.add_mul, Nat.mul_comm d t]; omega
      omega
  have h5 : (2 * (s + 1)) * (2 * (s + 1)) = 4 * ((s + 1) * (s + 1)) := by
    generalize s + 1 = t
    rw [Nat.mul_mul_mul_comm]
  omega
theorem newton_stop {n r : Nat} (h : r ≤ (r + n / r) / 2) : r * r ≤ n := by
  have h1 : r ≤ n / r := by omega
  exact Nat.le_trans (Nat.mul_le_mul_left r h1) (Nat.mul_div_le n r)
theorem root_start (n : Nat) : n < (10000 ^ ((Num.gl n + 1) / 2) + 1) * (10000 ^ ((Num.gl n + 1) / 2) + 1) := by
  have h1 := Num.lt_pow_gl n
  have h2 : 10000 ^ Num.gl n ≤ 10000 ^ (2 * ((Num.gl n + 1) / 2)) := Nat.pow_le_pow_right (by omega) (by omega)
  have h3 : 10000 ^ (2 * ((Num.gl n + 1) / 2)) = 10000 ^ ((Num.gl n + 1) / 2) * 10000 ^ ((Num.gl n + 1) / 2) := by rw [← Nat.pow_add]; congr 1; omega
  have h4 : 10000 ^ ((Num.gl n + 1) / 2) * 10000 ^ ((Num.gl n + 1) / 2) ≤ (10000 ^ ((Num.gl n + 1) / 2) + 1) * (10000 ^ ((Num.gl n + 1) / 2) + 1) := Nat.mul_le_mul (Nat.le_succ _) (Nat.le_succ _)
  omega
theorem grp_pow (k : Nat) : Num.grp (10000 ^ k) = List.replicate k 0 ++ [1] := by
  have hd : Num.Dig (List.replicate k 0 ++ [1]) := by
    intro d hd
    rw [List.mem_append, List.mem_replicate] at hd
    rcases hd with ⟨_, rfl⟩ | hd
    · decide
    · simp at hd; omega
  have hv : Num.val (List.replicate k 0 ++ [1]) = 10000 ^ k := by
    rw [Num.val_append]
    have : Num.val (List.replicate k 0) = 0 := by
      induction k with
      | zero => rfl
      | succ k ih => rw [List.replicate_succ]; simp [Num.val, ih (by intro d hd'; rw [List.mem_append, List.mem_replicate] at hd'; rcases hd' with ⟨_, rfl⟩ | hd' <;> simp_all)]
    rw [this]; simp [Num.val]
  rw [← hv]
  exact Num.grp_val hd (by intro d h; simp at h; omega)

theorem lit_made (W : World) (k : Nat) (hk : k ≤ 1000) : (W.alloc (.cells (madeCells #[.int .i64 0] k) 3)).ownsRow W.heap.size 3 1 (.slice (some ⟨W.heap.size, 0, none⟩) k k) k ((List.replicate k 0).map dv) := by
  have h := World.ownsRow_lit (base := W.heap.size) (e := 3) (size := 1) W (madeCells #[.int .i64 0] k) k (Nat.le_refl _) (by unfold maxLen; omega) (by rw [size_madeCells]; omega)
  have e : (madeCells #[Value.int .i64 0] k).toList = (List.replicate k 0).map dv := by
    rw [qrow_made]
    unfold qrow
    simp
  rw [e] at h
  exact h
theorem pow_num {w1 : World} {v' : Value} {k base : Nat} (h : w1.ownsRow base 3 1 v' (k + 1) ((List.replicate k 0).map dv ++ [dv 1])) : IsNum w1.heap.size w1 v' (10000 ^ k) := by
  have h' : w1.ownsRow base 3 1 v' (k + 1) ((List.replicate k 0 ++ [1]).map dv) := by simpa using h
  obtain ⟨a, cap, e, hc, hr, _⟩ := row_of_own h'
  rw [← grp_pow] at e hc hr
  exact ⟨a, cap, e, hc, hr⟩
theorem lit_is (W : World) (d : Nat) (hd : d < 10000) (h0 : d ≠ 0) : IsNum (W.alloc (.cells #[dv d] 3)).heap.size (W.alloc (.cells #[dv d] 3)) (.slice (some ⟨W.heap.size, 0, none⟩) 1 1) d := by
  have h := lit_num (w1 := W.alloc (.cells #[dv d] 3)) (v' := .slice (some ⟨W.heap.size, 0, none⟩) 1 1) (d := d) (x := 0) (m := 0) (base := W.heap.size) (by rw [Num.grp_zero]; exact lit_own W d) hd (.inr h0)
  simpa using h

set_option maxRecDepth 100000 in
set_option maxHeartbeats 4000000 in
theorem root_any (x : Int) (w : World) (h0 : 0 ≤ x) (hx : x.natAbs < 10 ^ 200) (ht : Tab w) :
    Calls Tryz.prog 30 #[txt (Lib.itoa x)] w fun e w' => (∃ R : Nat, e = .returned (ires (R : Int)) ∧ R * R ≤ x.natAbs ∧ x.natAbs < (R + 1) * (R + 1)) ∧ Below w.heap.size w w' := by
  obtain ⟨i0, hi, hz0, hz1, hz2⟩ := info_parts int_info
  have HB := both_yes x 0 w hx (by decide)
  rw [show Lib.itoa 0 = [48] by decide +kernel] at HB
  have HT := Lib.hid ht
  clear ht
  have gx := gl_200 hx
  have hg1 : decide (x < 0) = false := by simp; omega
  rw [hg1] at HB
  generalize decide ((0 : Int) < 0) = g2 at HB
  generalize Lib.itoa x = lx at HB ⊢
  generalize hn : x.natAbs = n at HB gx ⊢
  have HRS := Lib.hid (root_start n)
  generalize hln : Num.gl n = ln at gx HRS
  have HL := Lib.hid hln
  clear hx hn hg1 h0
  obtain ⟨k, hk⟩ : ∃ k, k = (ln + 1) / 2 := ⟨_, rfl⟩
  have HK := Lib.hid hk
  have hk25 : k ≤ 25 := by omega
  have hkz : ((ln : Int) + 1) / 2 = (k : Int) := by omega
  clear hk
  have hmk := fun W => run_make_row' (P := Tryz.prog) 92 3 (.int .i64 0) 8 Tryz.underlying92 int_info rfl .i64 .i64 k (by omega) (by omega) W
  go_enter Tryz.func30, Tryz.ntmps30
  go_wp2_with fail
  refine HB.mono ?_
  rintro e w1 ⟨⟨u, v, rfl, ⟨uv, rfl, hu⟩, ⟨vv, rfl, hv⟩⟩, hb1⟩
  have hP := bpair_is w1 false g2 uv vv
  have hun := hu.later hP.below
  have hB1 := hb1.trans (hP.below.mono hb1.size)
  obtain ⟨W, hW⟩ : ∃ W, W = bpair w1 false g2 uv vv := ⟨_, rfl⟩
  rw [← hW] at hP hun hB1
  have p0 := hP.fst.cell0
  have p1 := hP.fst.cell1
  obtain ⟨ua, uc, rfl, -, -⟩ := hu
  obtain ⟨va, vc, rfl, -, -⟩ := hv
  rw [hln] at p1 hun hP hW
  unfold bpair at hW
  clear HB
  have hown := lit_made ((w1.alloc (.cells #[.bool false, .slice ua ln uc] 94)).alloc (.cells #[.bool g2, .slice va (Num.gl 0) vc] 94)) k (by omega)
  simp only [World.size_alloc] at hown
  have hnews := cell_one_new (((w1.alloc (.cells #[.bool false, .slice ua ln uc] 94)).alloc (.cells #[.bool g2, .slice va (Num.gl 0) vc] 94)).alloc (.cells (madeCells #[.int .i64 0] k) 3)) (.int .i64 1) 3
  simp only [World.size_alloc] at hnews
  go_wp2_with (at_builtin; refine wpList_append_own _ rfl (.tmp 29) (.tmp 30) 92 rfl (w1.heap.size + 1 + 1) 3 i0 (.int .i64 0) 1 8 Tryz.underlying92 hi hz0 hz1 hz2 rfl (by decide) _ k ((List.replicate k 0).map dv) rfl (hown.alloc _) ⟨w1.heap.size + 1 + 1 + 1, 0, none⟩ 1 1 [.int .i64 1] rfl rfl hnews (by simp [Value.oneCell']) (by unfold maxLen; omega) (by omega) (by simp) ?_)
  intro v' w3 hown' hgrow _
  have hbW : Below W.heap.size W w3 := by
    rw [hW]
    exact (((Below.refl _ _).alloc (Nat.le_refl _) _).alloc (by simp) _).grown hgrow (by simp) (fun j e => by simp [Value.ownBlock] at e; simp; omega)
  have hr0 := pow_num (k := k) (base := w1.heap.size + 1 + 1) (v' := v') (w1 := w3) (by rw [List.map_replicate]; exact hown')
  have HN0 := Lib.hid hr0
  have hb3 := hB1.trans (hbW.mono hB1.size)
  have hun3 := hun.later hbW
  have p13 := (hbW.cell (p := ⟨w1.heap.size, 1, none⟩) hP.fst.lt).trans p1
  have hlt3 : w1.heap.size < w3.heap.size := Nat.lt_of_lt_of_le hP.fst.lt hbW.size
  clear hown hown' hnews hgrow hW hun hbW p0 p1 hP hmk hB1
  obtain ⟨pa, pc, rfl, -, -⟩ := hr0
  have hgp : Num.gl (10000 ^ k) ≤ 26 := by
    refine Num.gl_le.2 (Nat.pow_lt_pow_right (by omega) (by omega))
  have HP0 : Hid (n < (10000 ^ k + 1) * (10000 ^ k + 1) ∧ 0 < 10000 ^ k) := Lib.hid ⟨by rw [HK.out]; exact HRS.out, Nat.pow_pos (by omega)⟩
  generalize 10000 ^ k = r0 at HN0 hgp HP0 ⊢
  have H3 := Lib.hid hb3
  go_wp2
  go_loopg [7] r0 (fun kx s wr => ∃ (ra : Option Addr) (ca : Nat), s = .slice ra (Num.gl kx) ca ∧ Below w3.heap.size w3 wr ∧ Num.gl kx ≤ 26 ∧
    Hid (IsNum wr.heap.size wr (.slice ra (Num.gl kx) ca) kx ∧ 0 < kx ∧ n < (kx + 1) * (kx + 1)))
  case atStart => exact ⟨pa, pc, rfl, Below.refl _ _, hgp, Lib.hid ⟨HN0.out, HP0.out.2, HP0.out.1⟩⟩
  case round =>
    obtain ⟨ra, ca, rfl, hbr, ga, HI⟩ := hrel
    have q1 := (hbr.cell (p := ⟨w1.heap.size, 1, none⟩) hlt3).trans p13
    have hB := H3.out.trans (hbr.mono H3.out.size)
    have hnr := hun3.later hbr
    by_cases h0 : ln = 0
    · subst h0
      have hn0 : n = 0 := by
        have := HL.out
        rcases Nat.eq_zero_or_pos n with h | h
        · exact h
        · have := Num.gl_pos.2 (Nat.pos_iff_ne_zero.1 h); omega
      clear hnr
      go_wp2
      refine bodyPost_ret (v := .tuple #[txt [48], .int .i64 0]) ?_ rfl ⟨⟨0, ?_, by omega, by omega⟩, hB⟩
      · simp [results, Tryz.results30, go_sem]
      · rw [ires_yes (by decide)]
        rw [show Lib.itoa ((0 : Nat) : Int) = [48] by decide +kernel]
    · have hpos : 0 < ln := by omega
      have HO := Lib.hid (over_any wr (.slice ua ln uc) (.slice ra (Num.gl gk) ca) n gk HI.out.2.1 (by have := HL.out; omega) (by omega) hnr HI.out.1)
      go_wp2_with fail
      refine HO.out.mono ?_
      rintro e w4 ⟨⟨qv, tv, rfl, hq, -⟩, hb4⟩
      have hr4 := HI.out.1.later hb4
      clear hnr HO q1
      have hgq : Num.gl (n / gk) ≤ 50 := by have := Num.gl_mono (Nat.div_le_self n gk); have := HL.out; omega
      have GP := Lib.hid (plus_any w4 (.slice ra (Num.gl gk) ca) qv gk (n / gk) (by omega) (by omega) hr4 hq)
      have hgs : Num.gl (gk + n / gk) ≤ 51 := by have := Num.gl_add gk (n / gk); omega
      have HUP := Lib.hid (newton_up (n := n) HI.out.2.1)
      have HST := Lib.hid (newton_stop (n := n) (r := gk))
      obtain ⟨q, hqe⟩ : ∃ q, q = n / gk := ⟨_, rfl⟩
      rw [← hqe] at hgq GP hgs hq HUP HST
      obtain ⟨qa, qc, rfl, -, -⟩ := hq
      clear hqe
      go_wp2_with fail
      refine GP.out.mono ?_
      rintro e w5 ⟨⟨sv, rfl, hs⟩, hb5⟩
      have hbl : Below w5.heap.size w5 (w5.alloc (.cells #[.int .i64 2] 3)) := (Below.refl _ _).alloc (Nat.le_refl _) _
      have GO := Lib.hid (over_any (w5.alloc (.cells #[.int .i64 2] 3)) sv (.slice (some ⟨w5.heap.size, 0, none⟩) 1 1) (gk + q) 2 (by omega) (by omega) (by have : Num.gl 2 ≤ 1 := Num.gl_le.2 (by omega); omega) (hs.later hbl) (lit_is w5 2 (by omega) (by omega)))
      have hr5 := hr4.later hb5
      have hr6 := hr5.later hbl
      obtain ⟨sa, sc, rfl, -, -⟩ := hs
      obtain ⟨nx, hnx⟩ : ∃ nx, nx = (gk + q) / 2 := ⟨_, rfl⟩
      rw [← hnx] at GO HUP HST
      have hgn : Num.gl nx ≤ 51 := by have := Num.gl_mono (show nx ≤ gk + q by omega); omega
      clear hnx
      go_wp2_with fail
      refine GO.out.mono ?_
      rintro e w6 ⟨⟨nv, tv', rfl, hnn, -⟩, hb6⟩
      have hr7 := hr6.later hb6
      have GC := Lib.hid (compare_any w6 nv (.slice ra (Num.gl gk) ca) nx gk (by omega) hnn hr7)
      have hnn' := Lib.hid hnn
      obtain ⟨na, nc, rfl, -, -⟩ := hnn
      have hb36 : Below w3.heap.size w3 w6 := by
        refine ((hbr.trans (hb4.mono hbr.size)).trans (hb5.mono (Nat.le_trans hbr.size hb4.size))).trans ?_
        have e5 := Nat.le_trans hbr.size (Nat.le_trans hb4.size hb5.size)
        exact (hbl.mono e5).trans (hb6.mono (by simp; omega))
      go_wp2_with fail
      refine GC.out.mono ?_
      rintro e w7 ⟨rfl, hb7⟩
      have hb37 := hb36.trans (hb7.mono hb36.size)
      clear hr4 hr5 hr6 hb4 hb5 hb6 hbl GP GO GC
      by_cases hge : gk ≤ nx
      · have hs0 : 0 ≤ sgn (nx : Int) (gk : Int) := sgn_nonneg hge
        have HB7 := H3.out.trans (hb37.mono H3.out.size)
        obtain ⟨rl, rk, hr⟩ := ires_form ((gk : Nat) : Int)
        have HR := Lib.hid hr
        have GT := Lib.hid (text_any w7 (.agg #[.bool false, .slice ra (Num.gl gk) ca]) false gk (by omega) (HT.out.later HB7) ⟨_, rfl, hr7.later hb7⟩)
        rw [show sig false gk = ((gk : Nat) : Int) from rfl, hr] at GT
        clear hr
        go_wp2_with (go_at_call 70; refine GT.out.mono ?_; rintro e w8 ⟨rfl, hb8⟩)
        refine bodyPost_ret (v := .tuple #[txt rl, .int .i64 rk]) ?_ rfl ⟨⟨gk, by rw [HR.out], HST.out hge, HI.out.2.2⟩, HB7.trans (hb8.mono HB7.size)⟩
        simp [results, Tryz.results30, go_sem]
      · have hs0 : sgn (nx : Int) (gk : Int) < 0 := sgn_negative (by omega)
        have hpn : 0 < nx := by
          rcases Nat.eq_zero_or_pos nx with h | h
          · have h1 := HUP.out
            rw [h] at h1
            have : n = 0 := by omega
            have h2 := HL.out
            rw [this, Num.gl_zero] at h2
            omega
          · exact h
        have hgl : Num.gl nx ≤ 26 := Nat.le_trans (Num.gl_mono (show nx ≤ gk by omega)) ga
        go_wp2
        go_roundg nx
        case measure => omega
        case rel => exact ⟨na, nc, rfl, hb37, hgl, Lib.hid ⟨hnn'.out.later hb7, hpn, HUP.out⟩⟩

set_option maxRecDepth 100000 in
set_option maxHeartbeats 2000000 in
theorem root_neg (x : Int) (w : World) (h0 : x < 0) (hx : x.natAbs < 10 ^ 200) :
    Calls Tryz.prog 30 #[txt (Lib.itoa x)] w fun e w' => e = .returned (.tuple #[txt [], .int .i64 30]) ∧ Below w.heap.size w w' := by
  have HB := both_yes x 0 w hx (by decide)
  rw [show Lib.itoa 0 = [48] by decide +kernel, decide_eq_true h0] at HB
  generalize decide ((0 : Int) < 0) = g2 at HB
  generalize Lib.itoa x = lx at HB ⊢
  generalize x.natAbs = n at HB hx ⊢
  clear hx h0
  go_enter Tryz.func30, Tryz.ntmps30
  go_wp2_with fail
  refine HB.mono ?_
  rintro e w1 ⟨⟨u, v, rfl, ⟨uv, rfl, hu⟩, ⟨vv, rfl, hv⟩⟩, hb1⟩
  obtain ⟨ua, uc, rfl, -, -⟩ := hu
  obtain ⟨va, vc, rfl, -, -⟩ := hv
  have hB := hb1.trans ((bpair_is w1 true g2 (.slice ua (Num.gl n) uc) (.slice va (Num.gl (Int.natAbs 0)) vc)).below.mono hb1.size)
  unfold bpair at hB
  clear HB
  go_wp2
  refine bodyPost_ret (v := .tuple #[txt [], .int .i64 30]) ?_ rfl ⟨rfl, hB⟩
  simp [results, Tryz.results30, go_sem]

set_option maxRecDepth 100000 in
set_option maxHeartbeats 2000000 in
theorem root_no (l : List UInt8) (w : World) (hl : l.length ≤ 1000000) (hv : Dec.vld l = false) :
    Calls Tryz.prog 30 #[txt l] w fun e w' => e = .returned (.tuple #[txt [], .int .i64 30]) ∧ Below w.heap.size w w' := by
  have HB := both_no l [48] w hl (by decide) (by rw [hv]; rfl)
  go_enter Tryz.func30, Tryz.ntmps30
  go_wp2_with fail
  refine HB.mono ?_
  rintro e w1 ⟨rfl, hb1⟩
  have hP := bpair_is w1 false false (.slice none 0 0) (.slice none 0 0)
  have hB := hb1.trans (hP.below.mono hb1.size)
  unfold bpair at hB
  clear hP HB
  go_wp2
  refine bodyPost_ret (v := .tuple #[txt [], .int .i64 30]) ?_ rfl ⟨rfl, hB⟩
  simp [results, Tryz.results30, go_sem]
end Go.Proofs.YtkihodadopcioaaGreatDoor
namespace Go.Proofs.YtkihodadopcioaaGreatDoor
open Go.RowKit Go.Shelf

set_option maxRecDepth 100000 in
set_option maxHeartbeats 2000000 in
theorem div_no (l m : List UInt8) (w : World) (hl : l.length ≤ 1000000) (hm : m.length ≤ 1000000) (hv : (Dec.vld l && Dec.vld m) = false) :
    Calls Tryz.prog 26 #[txt l, txt m] w fun e w' => e = .returned (.tuple #[txt [], txt [], .int .i64 30]) ∧ Below w.heap.size w w' := by
  have HB := both_no l m w hl hm hv
  go_enter Tryz.func26, Tryz.ntmps26
  go_wp2_with fail
  refine HB.mono ?_
  rintro e w1 ⟨rfl, hb1⟩
  have hP := bpair_is w1 false false (.slice none 0 0) (.slice none 0 0)
  have hB := hb1.trans (hP.below.mono hb1.size)
  unfold bpair at hB
  clear hP HB
  go_wp2
  refine bodyPost_ret (v := .tuple #[txt [], txt [], .int .i64 30]) ?_ rfl ⟨rfl, hB⟩
  simp [results, Tryz.results26, go_sem]

set_option maxRecDepth 100000 in
set_option maxHeartbeats 2000000 in
/-- Division by 0 is refused. -/
theorem div_zero (x : Int) (w : World) (hx : x.natAbs < 10 ^ 200) :
    Calls Tryz.prog 26 #[txt (Lib.itoa x), txt [48]] w fun e w' => e = .returned (.tuple #[txt [], txt [], .int .i64 30]) ∧ Below w.heap.size w w' := by
  have HB := both_yes x 0 w hx (by decide)
  rw [show Lib.itoa 0 = [48] by decide +kernel] at HB
  generalize decide ((0 : Int) < 0) = g2 at HB
  generalize decide (x < 0) = g1 at HB
  generalize Lib.itoa x = lx at HB ⊢
  generalize x.natAbs = n at HB hx ⊢
  clear hx
  have hz : Num.gl 0 = 0 := Num.gl_zero
  go_enter Tryz.func26, Tryz.ntmps26
  go_wp2_with fail
  refine HB.mono ?_
  rintro e w1 ⟨⟨u, v, rfl, ⟨uv, rfl, hu⟩, ⟨vv, rfl, hv⟩⟩, hb1⟩
  obtain ⟨ua, uc, rfl, -, -⟩ := hu
  obtain ⟨va, vc, rfl, -, -⟩ := hv
  have hB := hb1.trans ((bpair_is w1 g1 g2 (.slice ua (Num.gl n) uc) (.slice va (Num.gl (Int.natAbs 0)) vc)).below.mono hb1.size)
  unfold bpair at hB
  rw [show Num.gl (Int.natAbs 0) = 0 from Num.gl_zero] at hB
  clear HB
  go_wp2
  refine bodyPost_ret (v := .tuple #[txt [], txt [], .int .i64 30]) ?_ rfl ⟨rfl, hB⟩
  simp [results, Tryz.results26, go_sem]

theorem one_any (w : World) : Calls Tryz.prog 80 #[] w fun e w' => e = .returned (.slice (some ⟨w.heap.size, 0, none⟩) 1 1) ∧ IsNum w'.heap.size w' (.slice (some ⟨w.heap.size, 0, none⟩) 1 1) 1 ∧ Below w.heap.size w w' := by
  have h := lit_is w 1 (by omega) (by omega)
  go_enter Tryz.func80, Tryz.ntmps80
  go_wp2
  go_ret
  exact ⟨rfl, h, (Below.refl _ _).alloc (Nat.le_refl _) _⟩

set_option maxRecDepth 100000 in
set_option maxHeartbeats 8000000 in
theorem div_sig (lx ly : List UInt8) (g1 g2 : Bool) (n m Q R : Nat) (z : Int) (w : World) (gx : Num.gl n ≤ 50) (gy : Num.gl m ≤ 50) (hm : 0 < m) (ht : Tab w)
    (HB : Calls Tryz.prog 68 #[txt lx, txt ly] w fun e w' => (∃ u v, e = .returned (.tuple #[u, v, .bool true]) ∧ IsSig w'.heap.size w' u g1 n ∧ IsSig w'.heap.size w' v g2 m) ∧ Below w.heap.size w w')
    (h1 : g1 = true → 0 < n % m → Q = n / m + 1 ∧ R = m - n % m) (h2 : ¬ (g1 = true ∧ 0 < n % m) → Q = n / m ∧ R = n % m) (hz : sig (g1 != g2) Q = z) (hzb : z.natAbs < 10 ^ 200) (hRb : R < 10 ^ 200) :
    Calls Tryz.prog 26 #[txt lx, txt ly] w fun e w' => e = .returned (.tuple #[txt (Lib.itoa z), txt (Lib.itoa (R : Int)), .int .i64 0]) ∧ Below w.heap.size w w' := by
  have HT := Lib.hid ht
  have H1 := Lib.hid h1
  have H2 := Lib.hid h2
  have gpm : 0 < Num.gl m := Num.gl_pos.2 (by omega)
  have hrm : n % m < m := Nat.mod_lt _ hm
  have gQ : Num.gl Q ≤ 51 := by
    have hq : Q ≤ n + 1 := by
      have := Nat.div_le_self n m
      by_cases h : g1 = true ∧ 0 < n % m
      · have := (h1 h.1 h.2).1; omega
      · have := (h2 h).1; omega
    have h3 := Num.gl_mono hq
    have h4 := Num.gl_add n 1
    have h5 : Num.gl 1 ≤ 1 := Num.gl_le.2 (by omega)
    omega
  have gR : Num.gl R ≤ 50 := by
    refine Nat.le_trans (Num.gl_mono (show R ≤ m from ?_)) gy
    by_cases h : g1 = true ∧ 0 < n % m
    · have := (h1 h.1 h.2).2; omega
    · have := (h2 h).2; omega
  obtain ⟨gb, hgb⟩ : ∃ gb, (g1 != g2) = gb := ⟨_, rfl⟩
  rw [hgb] at hz
  have hgb1 : (!(g1 == g2)) = gb := by rw [← hgb]; rfl
  have hgb2 : ((!g1) == g2) = gb := by rw [← hgb]; cases g1 <;> cases g2 <;> rfl
  clear hgb
  have HZ := Lib.hid hz
  have HM := Lib.hid hm
  have HS1 := Lib.hid (ires_yes hzb)
  have HS2 := Lib.hid (ires_yes (z := (R : Int)) (by simpa using hRb))
  clear h1 h2 hz hzb hRb ht
  generalize Lib.itoa z = sz at HS1 ⊢
  generalize Lib.itoa (R : Int) = sR at HS2 ⊢
  go_enter Tryz.func26, Tryz.ntmps26
  go_wp2_with fail
  refine HB.mono ?_
  rintro e w1 ⟨⟨u, v, rfl, ⟨uv, rfl, hu⟩, ⟨vv, rfl, hv⟩⟩, hb1⟩
  have hP := bpair_is w1 g1 g2 uv vv
  have hun := hu.later hP.below
  have hvn := hv.later hP.below
  have hB1 := hb1.trans (hP.below.mono hb1.size)
  obtain ⟨W, hW⟩ : ∃ W, W = bpair w1 g1 g2 uv vv := ⟨_, rfl⟩
  rw [← hW] at hP hun hvn hB1
  have HO := Lib.hid (over_any W uv vv n m HM.out (by omega) (by omega) hun hvn)
  obtain ⟨ua, uc, rfl, -, -⟩ := hu
  obtain ⟨va, vc, rfl, -, -⟩ := hv
  unfold bpair at hW
  clear HB
  go_wp2_with fail
  rw [← hW]
  clear hW
  refine HO.out.mono ?_
  rintro e w2 ⟨⟨qv, rv, rfl, hq, hr⟩, hb2⟩
  have bx := hP.fst.below hb2
  have by' := hP.snd.below hb2
  have hB2 := hB1.trans (hb2.mono hB1.size)
  have hv2 := hvn.later hb2
  clear hP hun hvn hB1 HO
  have hqn := Lib.hid hq
  have hrn := Lib.hid hr
  obtain ⟨qa, qc, rfl, -, -⟩ := hq
  obtain ⟨ra, rc, rfl, -, -⟩ := hr
  cases g1 <;> cases g2
  · -- false false
    obtain rfl : gb = false := hgb1.symm
    obtain ⟨eQ, eR⟩ := H2.out (by simp)
    rw [← eQ] at hqn ⊢
    rw [← eR] at hrn ⊢
    have hBt := hB2
    clear H1 H2 eQ eR hrm hb2 hgb1 hgb2 hv2
    have GT := Lib.hid (text_any w2 (.agg #[.bool false, .slice qa (Num.gl Q) qc]) false Q (by omega) (HT.out.later hBt) ⟨_, rfl, hqn.out⟩)
    rw [HZ.out, HS1.out] at GT
    have x0 := bx.cell0
    have y0 := by'.cell0
    go_wp2_with fail
    refine GT.out.mono ?_
    rintro e w6 ⟨rfl, hb6⟩
    have hB6 := hBt.trans (hb6.mono hBt.size)
    have GU := Lib.hid (text_any w6 (.agg #[.bool false, .slice ra (Num.gl R) rc]) false R (by omega) (HT.out.later hB6) ⟨_, rfl, hrn.out.later hb6⟩)
    rw [show sig false R = ((R : Nat) : Int) from rfl, HS2.out] at GU
    clear GT
    go_wp2_with fail
    refine GU.out.mono ?_
    rintro e w7 ⟨rfl, hb7⟩
    go_wp2
    refine bodyPost_ret (v := .tuple #[txt sz, txt sR, .int .i64 0]) ?_ rfl ⟨rfl, hB6.trans (hb7.mono hB6.size)⟩
    simp [results, Tryz.results26, go_sem]
  · -- false true
    obtain rfl : gb = true := hgb1.symm
    obtain ⟨eQ, eR⟩ := H2.out (by simp)
    rw [← eQ] at hqn ⊢
    rw [← eR] at hrn ⊢
    have hBt := hB2
    clear H1 H2 eQ eR hrm hb2 hgb1 hgb2 hv2
    have GT := Lib.hid (text_any w2 (.agg #[.bool true, .slice qa (Num.gl Q) qc]) true Q (by omega) (HT.out.later hBt) ⟨_, rfl, hqn.out⟩)
    rw [HZ.out, HS1.out] at GT
    have x0 := bx.cell0
    have y0 := by'.cell0
    go_wp2_with fail
    refine GT.out.mono ?_
    rintro e w6 ⟨rfl, hb6⟩
    have hB6 := hBt.trans (hb6.mono hBt.size)
    have GU := Lib.hid (text_any w6 (.agg #[.bool false, .slice ra (Num.gl R) rc]) false R (by omega) (HT.out.later hB6) ⟨_, rfl, hrn.out.later hb6⟩)
    rw [show sig false R = ((R : Nat) : Int) from rfl, HS2.out] at GU
    clear GT
    go_wp2_with fail
    refine GU.out.mono ?_
    rintro e w7 ⟨rfl, hb7⟩
    go_wp2
    refine bodyPost_ret (v := .tuple #[txt sz, txt sR, .int .i64 0]) ?_ rfl ⟨rfl, hB6.trans (hb7.mono hB6.size)⟩
    simp [results, Tryz.results26, go_sem]
  · -- true false
    obtain rfl : gb = true := hgb1.symm
    by_cases hr : 0 < n % m
    · obtain ⟨eQ, eR⟩ := H1.out rfl hr
      have hgp : 0 < Num.gl (n % m) := Num.gl_pos.2 (by omega)
      have hgr := Num.gl_mono (Nat.le_of_lt hrm)
      have hgq := Num.gl_mono (Nat.div_le_self n m)
      have HQ1 := Lib.hid eQ
      have HR1 := Lib.hid eR
      have HLE := Lib.hid (Nat.le_of_lt hrm)
      have hg1 : Num.gl 1 ≤ 1 := Num.gl_le.2 (by omega)
      generalize n / m = q0 at hqn hgq HQ1 ⊢
      generalize n % m = r0 at hrn hgp hgr HR1 HLE ⊢
      clear H1 H2 eQ eR hrm hb2 hgb1 hgb2 hr
      have x0 := bx.cell0
      go_upto_region 6 with fail
      go_cut [10, 11] from 46 to 52 (fun s10 s11 wx => ∃ (qa : Option Addr) (qc : Nat) (ra : Option Addr) (rc : Nat), s10 = .slice qa (Num.gl Q) qc ∧ s11 = .slice ra (Num.gl R) rc ∧ Below w2.heap.size w2 wx ∧ Hid (IsNum wx.heap.size wx (.slice qa (Num.gl Q) qc) Q) ∧ Hid (IsNum wx.heap.size wx (.slice ra (Num.gl R) rc) R))
      case first =>
        have hcur : Below w2.heap.size w2 w2.drew := (Below.refl _ _).drew
        have y1 : w2.drew.cell? ⟨w1.heap.size + 1, 1, none⟩ = _ := by'.cell1
        go_region_with (first
          | (go_at_call 80; refine (one_any _).mono ?_; rintro e w' ⟨rfl, hone, hb'⟩; (try have hmin := hmin.later hb'); have hcur := hcur.trans (hb'.mono hcur.size); have y1 := (by'.below hcur).cell1)
          | (go_at_call 79; refine (plus_any _ _ _ q0 1 (by omega) (by omega) (hqn.out.later hcur) hone).mono ?_; rintro e w' ⟨⟨pv, rfl, hpl⟩, hb'⟩; (try have hmin := hmin.later hb'); have hcur := hcur.trans (hb'.mono hcur.size); have y1 := (by'.below hcur).cell1)
          | (go_at_call 81; refine (minus_any _ _ _ m r0 (by omega) HLE.out (hv2.later hcur) (hrn.out.later hcur)).mono ?_; rintro e w' ⟨⟨mv, rfl, hmin⟩, hb'⟩; (try have hone := hone.later hb'); (try have hpl := hpl.later hb'); have hcur := hcur.trans (hb'.mono hcur.size)))
        all_goals (go_wp2_with fail; go_meet)
        all_goals obtain ⟨qa', qc', rfl, h5, h6⟩ := hpl
        all_goals obtain ⟨ra', rc', rfl, h7, h8⟩ := hmin
        all_goals rw [HQ1.out, HR1.out]
        all_goals exact ⟨qa', qc', ra', rc', rfl, rfl, hcur, Lib.hid ⟨qa', qc', rfl, h5, h6⟩, Lib.hid ⟨ra', rc', rfl, h7, h8⟩⟩
      case rest =>
        obtain ⟨qa, qc, ra, rc, rfl, rfl, hbx, hqn, hrn⟩ := hcut
        have hBt := hB2.trans (hbx.mono hB2.size)
        have bx := bx.below hbx
        have by' := by'.below hbx
        clear hv2 x0
        have GT := Lib.hid (text_any wc (.agg #[.bool true, .slice qa (Num.gl Q) qc]) true Q (by omega) (HT.out.later hBt) ⟨_, rfl, hqn.out⟩)
        rw [HZ.out, HS1.out] at GT
        have x0 := bx.cell0
        have y0 := by'.cell0
        go_wp2_with fail
        refine GT.out.mono ?_
        rintro e w6 ⟨rfl, hb6⟩
        have hB6 := hBt.trans (hb6.mono hBt.size)
        have GU := Lib.hid (text_any w6 (.agg #[.bool false, .slice ra (Num.gl R) rc]) false R (by omega) (HT.out.later hB6) ⟨_, rfl, hrn.out.later hb6⟩)
        rw [show sig false R = ((R : Nat) : Int) from rfl, HS2.out] at GU
        clear GT
        go_wp2_with fail
        refine GU.out.mono ?_
        rintro e w7 ⟨rfl, hb7⟩
        go_wp2
        refine bodyPost_ret (v := .tuple #[txt sz, txt sR, .int .i64 0]) ?_ rfl ⟨rfl, hB6.trans (hb7.mono hB6.size)⟩
        simp [results, Tryz.results26, go_sem]
    · obtain ⟨eQ, eR⟩ := H2.out (fun h => hr h.2)
      have e0 : n % m = 0 := by omega
      rw [e0] at hrn eR ⊢
      subst eR
      rw [← eQ] at hqn ⊢
      rw [Num.gl_zero] at hrn ⊢
      have hBt := hB2
      clear H1 H2 eQ hrm hb2 hgb1 hgb2 hv2 hr e0
      have GT := Lib.hid (text_any w2 (.agg #[.bool true, .slice qa (Num.gl Q) qc]) true Q (by omega) (HT.out.later hBt) ⟨_, rfl, hqn.out⟩)
      rw [HZ.out, HS1.out] at GT
      have x0 := bx.cell0
      have y0 := by'.cell0
      go_wp2_with fail
      refine GT.out.mono ?_
      rintro e w6 ⟨rfl, hb6⟩
      have hB6 := hBt.trans (hb6.mono hBt.size)
      have GU := Lib.hid (text_any w6 (.agg #[.bool false, .slice ra 0 rc]) false 0 (by omega) (HT.out.later hB6) ⟨_, rfl, hrn.out.later hb6⟩)
      rw [show sig false 0 = ((0 : Nat) : Int) from rfl, HS2.out] at GU
      clear GT
      go_wp2_with fail
      refine GU.out.mono ?_
      rintro e w7 ⟨rfl, hb7⟩
      go_wp2
      refine bodyPost_ret (v := .tuple #[txt sz, txt sR, .int .i64 0]) ?_ rfl ⟨rfl, hB6.trans (hb7.mono hB6.size)⟩
      simp [results, Tryz.results26, go_sem]
  · -- true true
    obtain rfl : gb = false := hgb1.symm
    by_cases hr : 0 < n % m
    · obtain ⟨eQ, eR⟩ := H1.out rfl hr
      have hgp : 0 < Num.gl (n % m) := Num.gl_pos.2 (by omega)
      have hgr := Num.gl_mono (Nat.le_of_lt hrm)
      have hgq := Num.gl_mono (Nat.div_le_self n m)
      have HQ1 := Lib.hid eQ
      have HR1 := Lib.hid eR
      have HLE := Lib.hid (Nat.le_of_lt hrm)
      have hg1 : Num.gl 1 ≤ 1 := Num.gl_le.2 (by omega)
      generalize n / m = q0 at hqn hgq HQ1 ⊢
      generalize n % m = r0 at hrn hgp hgr HR1 HLE ⊢
      clear H1 H2 eQ eR hrm hb2 hgb1 hgb2 hr
      have x0 := bx.cell0
      go_upto_region 6 with fail
      go_cut [10, 11] from 46 to 52 (fun s10 s11 wx => ∃ (qa : Option Addr) (qc : Nat) (ra : Option Addr) (rc : Nat), s10 = .slice qa (Num.gl Q) qc ∧ s11 = .slice ra (Num.gl R) rc ∧ Below w2.heap.size w2 wx ∧ Hid (IsNum wx.heap.size wx (.slice qa (Num.gl Q) qc) Q) ∧ Hid (IsNum wx.heap.size wx (.slice ra (Num.gl R) rc) R))
      case first =>
        have hcur : Below w2.heap.size w2 w2.drew := (Below.refl _ _).drew
        have y1 : w2.drew.cell? ⟨w1.heap.size + 1, 1, none⟩ = _ := by'.cell1
        go_region_with (first
          | (go_at_call 80; refine (one_any _).mono ?_; rintro e w' ⟨rfl, hone, hb'⟩; (try have hmin := hmin.later hb'); have hcur := hcur.trans (hb'.mono hcur.size); have y1 := (by'.below hcur).cell1)
          | (go_at_call 79; refine (plus_any _ _ _ q0 1 (by omega) (by omega) (hqn.out.later hcur) hone).mono ?_; rintro e w' ⟨⟨pv, rfl, hpl⟩, hb'⟩; (try have hmin := hmin.later hb'); have hcur := hcur.trans (hb'.mono hcur.size); have y1 := (by'.below hcur).cell1)
          | (go_at_call 81; refine (minus_any _ _ _ m r0 (by omega) HLE.out (hv2.later hcur) (hrn.out.later hcur)).mono ?_; rintro e w' ⟨⟨mv, rfl, hmin⟩, hb'⟩; (try have hone := hone.later hb'); (try have hpl := hpl.later hb'); have hcur := hcur.trans (hb'.mono hcur.size)))
        all_goals (go_wp2_with fail; go_meet)
        all_goals obtain ⟨qa', qc', rfl, h5, h6⟩ := hpl
        all_goals obtain ⟨ra', rc', rfl, h7, h8⟩ := hmin
        all_goals rw [HQ1.out, HR1.out]
        all_goals exact ⟨qa', qc', ra', rc', rfl, rfl, hcur, Lib.hid ⟨qa', qc', rfl, h5, h6⟩, Lib.hid ⟨ra', rc', rfl, h7, h8⟩⟩
      case rest =>
        obtain ⟨qa, qc, ra, rc, rfl, rfl, hbx, hqn, hrn⟩ := hcut
        have hBt := hB2.trans (hbx.mono hB2.size)
        have bx := bx.below hbx
        have by' := by'.below hbx
        clear hv2 x0
        have GT := Lib.hid (text_any wc (.agg #[.bool false, .slice qa (Num.gl Q) qc]) false Q (by omega) (HT.out.later hBt) ⟨_, rfl, hqn.out⟩)
        rw [HZ.out, HS1.out] at GT
        have x0 := bx.cell0
        have y0 := by'.cell0
        go_wp2_with fail
        refine GT.out.mono ?_
        rintro e w6 ⟨rfl, hb6⟩
        have hB6 := hBt.trans (hb6.mono hBt.size)
        have GU := Lib.hid (text_any w6 (.agg #[.bool false, .slice ra (Num.gl R) rc]) false R (by omega) (HT.out.later hB6) ⟨_, rfl, hrn.out.later hb6⟩)
        rw [show sig false R = ((R : Nat) : Int) from rfl, HS2.out] at GU
        clear GT
        go_wp2_with fail
        refine GU.out.mono ?_
        rintro e w7 ⟨rfl, hb7⟩
        go_wp2
        refine bodyPost_ret (v := .tuple #[txt sz, txt sR, .int .i64 0]) ?_ rfl ⟨rfl, hB6.trans (hb7.mono hB6.size)⟩
        simp [results, Tryz.results26, go_sem]
    · obtain ⟨eQ, eR⟩ := H2.out (fun h => hr h.2)
      have e0 : n % m = 0 := by omega
      rw [e0] at hrn eR ⊢
      subst eR
      rw [← eQ] at hqn ⊢
      rw [Num.gl_zero] at hrn ⊢
      have hBt := hB2
      clear H1 H2 eQ hrm hb2 hgb1 hgb2 hv2 hr e0
      have GT := Lib.hid (text_any w2 (.agg #[.bool false, .slice qa (Num.gl Q) qc]) false Q (by omega) (HT.out.later hBt) ⟨_, rfl, hqn.out⟩)
      rw [HZ.out, HS1.out] at GT
      have x0 := bx.cell0
      have y0 := by'.cell0
      go_wp2_with fail
      refine GT.out.mono ?_
      rintro e w6 ⟨rfl, hb6⟩
      have hB6 := hBt.trans (hb6.mono hBt.size)
      have GU := Lib.hid (text_any w6 (.agg #[.bool false, .slice ra 0 rc]) false 0 (by omega) (HT.out.later hB6) ⟨_, rfl, hrn.out.later hb6⟩)
      rw [show sig false 0 = ((0 : Nat) : Int) from rfl, HS2.out] at GU
      clear GT
      go_wp2_with fail
      refine GU.out.mono ?_
      rintro e w7 ⟨rfl, hb7⟩
      go_wp2
      refine bodyPost_ret (v := .tuple #[txt sz, txt sR, .int .i64 0]) ?_ rfl ⟨rfl, hB6.trans (hb7.mono hB6.size)⟩
      simp [results, Tryz.results26, go_sem]
end Go.Proofs.YtkihodadopcioaaGreatDoor
namespace Go.Proofs.YtkihodadopcioaaGreatDoor
open Go.RowKit Go.Shelf

theorem ediv_pos {g : Bool} {n m Q R : Nat} (hm : 0 < m) (h1 : g = true → 0 < n % m → Q = n / m + 1 ∧ R = m - n % m) (h2 : ¬ (g = true ∧ 0 < n % m) → Q = n / m ∧ R = n % m) :
    sig g n / (m : Int) = sig g Q ∧ sig g n % (m : Int) = (R : Int) := by
  have hmod := Nat.mod_lt n hm
  have hdm := Nat.div_add_mod n m
  rw [Int.ediv_emod_unique (by omega)]
  by_cases h : g = true ∧ 0 < n % m
  · obtain ⟨rfl, hr⟩ := h
    obtain ⟨rfl, rfl⟩ := h1 rfl hr
    refine ⟨?_, by omega, by omega⟩
    simp only [sig, if_true]
    have e : (n : Int) = (m : Int) * ((n / m : Nat) : Int) + ((n % m : Nat) : Int) := by exact_mod_cast hdm.symm
    rw [Int.natCast_add, Int.ofNat_sub (Nat.le_of_lt hmod), Int.mul_neg, Int.mul_add]
    simp only [Int.natCast_one, Int.mul_one]
    omega
  · obtain ⟨rfl, rfl⟩ := h2 h
    refine ⟨?_, by omega, by omega⟩
    have e : (n : Int) = (m : Int) * ((n / m : Nat) : Int) + ((n % m : Nat) : Int) := by exact_mod_cast hdm.symm
    cases g with
    | false => show ((n % m : Nat) : Int) + (m : Int) * ((n / m : Nat) : Int) = (n : Int); omega
    | true =>
      have h0 : n % m = 0 := by
        rcases Nat.eq_zero_or_pos (n % m) with h' | h'
        · exact h'
        · exact absurd ⟨rfl, h'⟩ h
      show ((n % m : Nat) : Int) + (m : Int) * -((n / m : Nat) : Int) = -(n : Int)
      rw [Int.mul_neg]
      omega

/-- 'Div': the quotient and the remainder, the remainder at least 0. -/
theorem div_any (x y : Int) (w : World) (hx : x.natAbs < 10 ^ 200) (hy : y.natAbs < 10 ^ 200) (h0 : y ≠ 0) (ht : Tab w) :
    Calls Tryz.prog 26 #[txt (Lib.itoa x), txt (Lib.itoa y)] w fun e w' => e = .returned (.tuple #[txt (Lib.itoa (x / y)), txt (Lib.itoa (x % y)), .int .i64 0]) ∧ Below w.heap.size w w' := by
  have hm : 0 < y.natAbs := by omega
  have hmod := Nat.mod_lt x.natAbs hm
  obtain ⟨Q, R, h1, h2⟩ : ∃ Q R : Nat, ((decide (x < 0)) = true → 0 < x.natAbs % y.natAbs → Q = x.natAbs / y.natAbs + 1 ∧ R = y.natAbs - x.natAbs % y.natAbs) ∧ (¬ ((decide (x < 0)) = true ∧ 0 < x.natAbs % y.natAbs) → Q = x.natAbs / y.natAbs ∧ R = x.natAbs % y.natAbs) := by
    by_cases h : (decide (x < 0)) = true ∧ 0 < x.natAbs % y.natAbs
    · exact ⟨_, _, fun _ _ => ⟨rfl, rfl⟩, fun h' => absurd h h'⟩
    · exact ⟨_, _, fun a b => absurd ⟨a, b⟩ h, fun _ => ⟨rfl, rfl⟩⟩
  obtain ⟨e1, e2⟩ := ediv_pos hm h1 h2
  rw [natAbs_sig] at e1 e2
  have hRm : R ≤ y.natAbs := by
    by_cases h : (decide (x < 0)) = true ∧ 0 < x.natAbs % y.natAbs
    · have := (h1 h.1 h.2).2; omega
    · have := (h2 h).2; omega
  have hQn : Q ≤ x.natAbs := by
    by_cases h : (decide (x < 0)) = true ∧ 0 < x.natAbs % y.natAbs
    · rw [(h1 h.1 h.2).1]
      have h3 : x.natAbs / y.natAbs * y.natAbs < x.natAbs := by have := Nat.div_add_mod x.natAbs y.natAbs; rw [Nat.mul_comm] at this; omega
      have h4 : x.natAbs / y.natAbs ≤ x.natAbs / y.natAbs * y.natAbs := Nat.le_mul_of_pos_right _ hm
      omega
    · rw [(h2 h).1]; exact Nat.div_le_self _ _
  have hz : sig (decide (x < 0) != decide (y < 0)) Q = x / y := by
    have ey := natAbs_sig (x := y)
    by_cases hy0 : y < 0
    · have e3 : y = -(y.natAbs : Int) := by omega
      have e4 : x / y = -(x / (y.natAbs : Int)) := by rw [← Int.ediv_neg, ← e3]
      rw [e4, e1, decide_eq_true hy0]
      cases decide (x < 0) <;> simp [sig]
    · have e3 : y = (y.natAbs : Int) := by omega
      have e4 : x / y = x / (y.natAbs : Int) := by rw [← e3]
      rw [e4, e1, decide_eq_false hy0]
      cases decide (x < 0) <;> simp [sig]
  have hr : x % y = (R : Int) := by
    rw [← e2]
    by_cases hy0 : y < 0
    · have e3 : (y.natAbs : Int) = -y := by omega
      rw [e3, Int.emod_neg]
    · have e3 : y = (y.natAbs : Int) := by omega
      rw [← e3]
  rw [hr]
  exact div_sig _ _ _ _ _ _ Q R (x / y) w (gl_200 hx) (gl_200 hy) hm ht (both_yes x y w hx hy) h1 h2 hz (by rw [← hz, sig_abs]; exact Nat.lt_of_le_of_lt hQn hx) (Nat.lt_of_le_of_lt hRm hy)
end Go.Proofs.YtkihodadopcioaaGreatDoor
