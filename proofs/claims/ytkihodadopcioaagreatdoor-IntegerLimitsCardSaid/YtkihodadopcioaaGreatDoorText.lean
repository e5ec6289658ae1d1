/- text: an integer as a string. -/
import Derived.Test.YtkihodadopcioaaGreatDoorBoth
import Derived.Test.YtkihodadopcioaaGreatDoorBuilder
import Derived.Test.YtkihodadopcioaaGreatDoorKeep
import Derived.Shelf.RegionOpen
import Derived.Lib.SmallJoins
import Derived.Lib.AppendIntMem
namespace Go.Proofs.YtkihodadopcioaaGreatDoor
open Go.RowKit Go.Shelf

attribute [local go_sem] Oper.semAt_some

namespace Dec
theorem digits_zeros (k : Nat) : Digits (List.replicate k 48) := by
  intro b hb
  rw [List.mem_replicate] at hb
  rw [hb.2]; decide
theorem dval_zeros (k : Nat) : dval (List.replicate k 48) = 0 := by
  induction k with
  | zero => rfl
  | succ k ih => rw [List.replicate_succ, dval_cons, ih]; simp
theorem decDigits_group {h d : Nat} (hh : h ≠ 0) (hd : d < 10000) : Lib.decDigits (d + 10000 * h) = Lib.decDigits h ++ (List.replicate (4 - (Lib.decDigits d).length) 48 ++ Lib.decDigits d) := by
  have h4 : (Lib.decDigits d).length ≤ 4 := (decDigits_length d 4 (by omega)).2 hd
  have hne := decDigits_ne h
  have hD : Digits (Lib.decDigits h ++ (List.replicate (4 - (Lib.decDigits d).length) 48 ++ Lib.decDigits d)) := by
    intro b hb
    rw [List.mem_append, List.mem_append] at hb
    rcases hb with hb | hb | hb
    · exact decDigits_digits h b hb
    · exact digits_zeros _ b hb
    · exact decDigits_digits d b hb
  have hv : dval (Lib.decDigits h ++ (List.replicate (4 - (Lib.decDigits d).length) 48 ++ Lib.decDigits d)) = d + 10000 * h := by
    rw [dval_append, dval_append, dval_zeros, dval_decDigits, dval_decDigits, List.length_append, List.length_replicate, show 4 - (Lib.decDigits d).length + (Lib.decDigits d).length = 4 by omega, show (10 ^ 4 : Nat) = 10000 from rfl]
    omega
  rw [← hv]
  refine decDigits_dval hD (by simp [hne]) (.inr ?_)
  rw [List.head?_append]
  cases hc : Lib.decDigits h with
  | nil => exact absurd hc hne
  | cons b l =>
    have := (decDigits_head h).1
    rw [hc] at this
    intro e
    exact hh (this (by simpa using e))
theorem repeat_zeros (k : Nat) : Lib.repeatL [48] k = List.replicate k 48 := by
  induction k with
  | zero => rfl
  | succ k ih => rw [Lib.repeatL, ih, List.replicate_succ]; rfl
end Dec

/-- The table of powers of ten that Itoa reads. -/
def Tab (w : World) : Prop := Lib.TabIs Tryz.prog w "internal/strconv.uint64pow10" .u64 Lib.pow10Tab
theorem Tab.later {w w' : World} (h : Tab w) (hb : Below w.heap.size w w') : Tab w' := by
  unfold Tab Lib.TabIs at h ⊢
  exact Joins.var_stays (g := 3) (by kernel_rfl) h hb (Nat.le_refl _)

theorem itoa_any (z : Int) (w : World) (h0 : -9223372036854775808 ≤ z) (h1 : z ≤ 9223372036854775807) (ht : Tab w) :
    Calls Tryz.prog 88 #[.int .i64 z] w fun e w' => e = .returned (txt (Lib.itoa z)) ∧ Below w.heap.size w w' := by
  refine (Tryz.strconv_Itoa z h0 h1 w ht).mono ?_
  rintro e w' ⟨rfl, k, os, rfl⟩
  exact ⟨rfl, Lib.below_grow _ _ (Nat.le_refl _) _ _⟩
theorem repeat_any (k : Nat) (w : World) (hk : k ≤ 1000) :
    Calls Tryz.prog 122 #[.string { data := #[48] }, .int .i64 (k : Int)] w fun e w' => e = .returned (txt (List.replicate k 48)) ∧ Below w.heap.size w w' := by
  refine (Tryz.strings_Repeat ⟨#[48]⟩ k w (by omega) (by show 1 * k ≤ _; omega)).mono ?_
  rintro e w' ⟨rfl, hb⟩
  exact ⟨by rw [← Dec.repeat_zeros], hb⟩

/-- What stands in the builder when the groups from k on are written. -/
def upto (n k : Nat) : List UInt8 := if k < Num.gl n then Lib.decDigits (Num.hi n k) else []
theorem hi_ne {n k : Nat} (h : k < Num.gl n) : Num.hi n k ≠ 0 := by
  intro e
  unfold Num.hi at e
  have hl : ((Num.grp n).drop k) ≠ [] := by rw [← List.length_pos_iff, List.length_drop]; unfold Num.gl at h; omega
  have hd : Num.Dig ((Num.grp n).drop k) := fun x hx => Num.grp_dig n x (List.mem_of_mem_drop hx)
  have := Num.grp_val hd (fun d hd' => Num.grp_last (n := n) (by rw [List.getLast?_drop] at hd'; rw [if_neg (by unfold Num.gl at h; omega)] at hd'; exact hd'))
  rw [e, Num.grp_zero] at this
  exact hl this.symm
theorem upto_top {n k d : Nat} (hd : (Num.grp n)[k]? = some d) (hk : ¬ k < Num.gl n - 1) : upto n k = upto n (k + 1) ++ Lib.decDigits d := by
  have hlt : k < Num.gl n := (List.getElem?_eq_some_iff.1 hd).1
  unfold upto
  rw [if_pos hlt, if_neg (by omega), Num.hi_succ hd]
  have : Num.hi n (k + 1) = 0 := by
    have h1 := Num.hi_end n
    have e : k + 1 = (Num.grp n).length := by unfold Num.gl at *; omega
    rw [e]; exact h1
  rw [this]; simp
theorem upto_low {n k d : Nat} (hd : (Num.grp n)[k]? = some d) (hk : k < Num.gl n - 1) : upto n k = upto n (k + 1) ++ (List.replicate (4 - (Lib.decDigits d).length) 48 ++ Lib.decDigits d) := by
  have hlt : k < Num.gl n := (List.getElem?_eq_some_iff.1 hd).1
  unfold upto
  rw [if_pos hlt, if_pos (by omega), Num.hi_succ hd]
  exact Dec.decDigits_group (hi_ne (by omega)) (Num.grp_get_lt hd)

theorem Turns.boxed2 {B b : Nat} {t : TypeId} {u v : Value} : Turns B (fun W => Boxed2 W b t u v) := fun W W' row h hg hr => by
  refine (hg.block b h.lt (fun e => ?_)).trans h
  obtain ⟨_, o, ho, hc⟩ := hr b e.symm
  rw [show _ = _ from h] at ho; cases ho; cases hc
theorem Turns.builder {B b C : Nat} {T e : TypeId} {bs : List Value} : Turns B (fun W => Lib.IsBuilder T e C b bs W) := by
  have key : ∀ p W W' row, Lib.BuilderAt T e C b p bs W → W.grownBy W' row → (∀ r, row = some r → B ≤ r ∧ ∃ o : Obj, W.heap[r]? = some o ∧ o.isCells = false) → Lib.BuilderAt T e C b p bs W' := by
    rintro p W W' row h hg hr
    have hlt := h.lt
    obtain ⟨hB, v, hb, hown, hne⟩ := h
    refine ⟨hB, v, (hg.block b hlt (fun e => ?_)).trans hb, hown.kept hg ?_, hne⟩
    · obtain ⟨_, o, ho, hc⟩ := hr b e.symm
      rw [hb] at ho; cases ho; cases hc
    · cases hr0 : v.ownBlock with
      | none => exact .inl rfl
      | some g =>
        refine .inr (fun e' => ?_)
        obtain ⟨c, fz, hc⟩ := Lib.ownsRow_kind hown g hr0
        obtain ⟨_, o, ho, hoc⟩ := hr g e'.symm
        rw [hc] at ho; cases ho; cases hoc
  rintro W W' row (h | h) hg hr
  · exact .inl (key _ _ _ _ h hg hr)
  · exact .inr (key _ _ _ _ h hg hr)

/-- The loop's word. -/
def TexI (w : World) (g : Bool) (v : Value) (n k : Nat) (W : World) : Prop :=
  (Boxed2 W w.heap.size 94 (.bool g) v ∧ Lib.IsBuilder 148 5 (w.heap.size + 1) (w.heap.size + 1) (Lib.byteCells (upto n k)) W) ∧ Boxed W (w.heap.size + 1 + 1) 92 v ∧ Below w.heap.size w W
theorem TexI.turns {w : World} {g : Bool} {v : Value} {n k B : Nat} (hB : w.heap.size ≤ B) : Turns B (TexI w g v n k) :=
  Turns.and (Turns.and Turns.boxed2 Turns.builder) (Turns.and Turns.boxed (Turns.below (Nat.le_refl _) hB))

theorem isBuilder_cells {T e : TypeId} {B b : Nat} {bs : List Value} {W : World} (h : Lib.IsBuilder T e B b bs W) : ∃ p v, W.heap[b]? = some (.cells #[p, v] T (0, 0)) := by
  rcases h with h | h
  · obtain ⟨_, v, hb, _⟩ := h
    exact ⟨_, v, hb⟩
  · obtain ⟨_, v, hb, _⟩ := h
    exact ⟨_, v, hb⟩
theorem builder_later {T e : TypeId} {B b : Nat} {bs : List Value} {W W' : World} (h : Lib.IsBuilder T e B b bs W) (hb : Below W.heap.size W W') : Lib.IsBuilder T e B b bs W' := by
  have key : ∀ p, Lib.BuilderAt T e B b p bs W → Lib.BuilderAt T e B b p bs W' := fun p h => by
    have hlt := h.lt
    obtain ⟨hB, v, hbk, hown, hne⟩ := h
    exact ⟨hB, v, (hb.block b hlt).trans hbk, own_later hown hb, hne⟩
  exact h.imp (key _) (key _)

theorem tex_next {w A W2 W3 : World} {g : Bool} {v p : Value} {n k : Nat} {s : List UInt8} {B : Nat} (hA : Below w.heap.size w A) (st : Below A.heap.size A W2)
    (cX : Boxed2 A w.heap.size 94 (.bool g) v) (cB : Lib.IsBuilder 148 5 (w.heap.size + 1) (w.heap.size + 1) (Lib.byteCells (upto n (k + 1))) A)
    (cN : Boxed A (w.heap.size + 1 + 1) 92 v)
    (hbl : Lib.BuilderAt 148 5 (w.heap.size + 1) (w.heap.size + 1) p (Lib.byteCells (upto n (k + 1)) ++ Lib.strCells ⟨s.toArray⟩) W3) (hp : p = .pointer (some ⟨w.heap.size + 1, 0, none⟩))
    (hb3 : Below (w.heap.size + 1) W2 W3) (ho : Lib.OthersKept 5 (some (w.heap.size + 1)) W2 W3) (hs : upto n k = upto n (k + 1) ++ s) :
    KeepsFrom B A W3 ∧ KpB w.heap.size (w.heap.size + 1 + 1) A W3 ∧ TexI w g v n k W3 := by
  subst hp
  have hsz := cN.lt
  have e : Lib.byteCells (upto n k) = Lib.byteCells (upto n (k + 1)) ++ Lib.strCells ⟨s.toArray⟩ := by
    rw [hs]; simp [Lib.byteCells, Lib.strCells]
  have hb13 : Below w.heap.size A W3 := (st.mono hA.size).trans (hb3.mono (by omega))
  have hN3 : Boxed W3 (w.heap.size + 1 + 1) 92 v := ho _ _ ((st.block (w.heap.size + 1 + 1) hsz).trans cN) (by simp) (fun c fz e => by cases e)
  refine ⟨⟨Nat.le_trans st.size hb3.size, fun j o _ hj hoc => ?_⟩, ⟨hb13, ?_⟩, ⟨⟨?_, .inr ?_⟩, hN3, hA.trans hb13⟩⟩
  · have hjb : j ≠ w.heap.size + 1 := by
      rintro rfl
      obtain ⟨p', v', hb⟩ := isBuilder_cells cB
      rw [hb] at hj; cases hj; cases hoc
    exact ho j o ((st.block j (Array.getElem?_eq_some_iff.1 hj).1).trans hj) (by intro e; cases e; exact hjb rfl) (fun c fz e => by subst e; cases hoc)
  · exact hN3.cell.trans cN.cell.symm
  · exact (hb3.block w.heap.size (by omega)).trans (Boxed2.below cX st)
  · rw [e]; exact hbl

/-- What 'text' returns, at an integer's sign and digits. -/
def tres (g : Bool) (s : List UInt8) : Value := if s.length ≤ 200 then .tuple #[txt ((if g then [45] else []) ++ s), .int .i64 0] else .tuple #[txt [], .int .i64 30]
theorem tres_plus {s : List UInt8} (h : s.length ≤ 200) : tres false s = .tuple #[txt s, .int .i64 0] := if_pos h
theorem tres_minus {s : List UInt8} (h : s.length ≤ 200) : tres true s = .tuple #[txt (45 :: s), .int .i64 0] := if_pos h
theorem tres_long {s : List UInt8} {g : Bool} (h : ¬ s.length ≤ 200) : tres g s = .tuple #[txt [], .int .i64 30] := if_neg h

set_option maxRecDepth 100000 in
set_option maxHeartbeats 2000000 in
theorem text_walk (w : World) (g : Bool) (a1 : Option Addr) (l1 c1 n : Nat) (hl : Hid (Num.gl n = l1)) (hA : l1 ≤ 1000000) (hpos : 0 < l1) (ht : Tab w) (h1 : Row w.heap.size w a1 (Num.grp n)) :
    Calls Tryz.prog 70 #[.agg #[.bool g, .slice a1 l1 c1]] w fun e w' => e = .returned (tres g (Lib.decDigits n)) ∧ Below w.heap.size w w' := by
  have H1 := Lib.hid h1
  have HT := Lib.hid ht
  clear h1 ht
  refine (callsIn_wide (n := 5)).1 ?_
  refine callsIn_of_wp_marks Tryz.func70 rfl trivial ?_ rfl
  simp only [Tryz.ntmps70, List.size_toArray, List.length_cons, List.length_nil, Nat.reduceAdd, Nat.reduceSub, Array.replicate_succ, Array.replicate_zero, List.push_toArray, List.append_toArray, List.nil_append, List.cons_append]
  gi_wp2_with (refine ⟨trivial, ?_⟩; gi_at_call 121; refine (callsIn_wide.2 (backward_any _ _ _ _)).mono ?_; rintro e w' ⟨rfl, rfl⟩)
  have bX := Boxed2.new w 94 (.bool g) (.slice a1 l1 c1)
  have bB := Lib.fresh_isBuilder 148 5 (w.alloc (.cells #[.bool g, .slice a1 l1 c1] 94))
  have bN := Boxed.new ((w.alloc (.cells #[.bool g, .slice a1 l1 c1] 94)).alloc (.cells #[.pointer none, .slice none 0 0] 148)) 92 (.slice a1 l1 c1)
  rw [World.size_alloc] at bB
  rw [World.size_alloc, World.size_alloc] at bN
  have hB0 : Below w.heap.size w (((w.alloc (.cells #[.bool g, .slice a1 l1 c1] 94)).alloc (.cells #[.pointer none, .slice none 0 0] 148)).alloc (.cells #[.slice a1 l1 c1] 92)) := (((Below.refl _ w).alloc (Nat.le_refl _) _).alloc (by simp) _).alloc (by simp; omega) _
  have hlz : (Num.grp n).length = l1 := hl.out
  refine wpIn_back 5 (by omega) (w.heap.size + 1 + 1) w.heap.size a1 c1 (Num.grp n) (by omega) rfl rfl (by rw [hlz]; exact bN.cell) hB0.size (H1.out.below hB0)
    (TexI w g (.slice a1 l1 c1) n) (fun _ => False) (fun k => TexI.turns hB0.size) Turns.const
    ⟨⟨(bX.alloc _).alloc _, by rw [show upto n (Num.grp n).length = [] from if_neg (Nat.lt_irrefl _)]; exact builder_later bB ((Below.refl _ _).alloc (Nat.le_refl _) _)⟩, bN, hB0⟩
    (fun k d => { tmps := #[.agg #[.bool g, .slice a1 l1 c1], .pointer (some ⟨w.heap.size, 0, none⟩), .string ⟨#[]⟩, .int .i64 0, .pointer (some ⟨w.heap.size + 1, 0, none⟩), .int .i64 (k : Int), dv d, undef, undef, .pointer (some ⟨w.heap.size, 1, none⟩), .slice a1 l1 c1, .int .i64 (l1 : Int), .bool false, .pointer (some ⟨w.heap.size, 1, none⟩), .slice a1 l1 c1,
          .func (.func 156) #[] #[.pointer (some ⟨w.heap.size + 1 + 1, 0, none⟩)], .int .i64 (k : Int), dv d, undef, undef, undef, undef, undef, undef, undef, undef, undef, undef, undef, undef, undef, undef, undef, undef, undef, undef, undef, undef, undef, undef, undef, undef, undef], defers := [] }) ?assign ?body ?done ?stop
  case assign =>
    intro l k d W K hK
    gi_wp2
    exact hK
  case body =>
    rintro l k d W hd ⟨⟨cX, cB⟩, cN, hBw⟩ hBs
    have hsz := cN.lt
    clear hBs bX bB bN hB0
    have hkl : k < l1 := by have := (List.getElem?_eq_some_iff.1 hd).1; omega
    have HD : d < 10000 := Num.grp_get_lt hd
    have h4 : (Lib.decDigits d).length ≤ 4 := (Dec.decDigits_length d 4 (by omega)).2 HD
    have hup : (upto n (k + 1)).length ≤ 4 * l1 := by
      unfold upto
      split
      · refine (Dec.decDigits_length _ _ (by omega)).2 ?_
        have h1 := Num.hi_le n (k + 1)
        have h2 := Num.lt_pow_gl n
        rw [hl.out] at h2
        have h3 : (10000 : Nat) ^ l1 = 10 ^ (4 * l1) := by rw [Nat.pow_mul]
        rw [← h3]
        omega
      · simp
    have HI := fun W' (hW : Tab W') => Lib.hid (itoa_any (d : Int) W' (by omega) (by omega) hW)
    rw [show Lib.itoa (d : Int) = Lib.decDigits d by rw [Dec.itoa_nonneg (by omega)]; rfl] at HI
    have HTW := HT.out.later hBw
    have htop := fun h => Lib.hid (upto_top hd h)
    have hlow := fun h => Lib.hid (upto_low hd h)
    have hgl := hl.out
    rw [hgl] at htop hlow
    have hpos4 := List.length_pos_iff.2 (Dec.decDigits_ne d)
    clear hd hgl HT
    generalize Lib.decDigits d = s at *
    have cx1 := cX.cell1
    by_cases hk : k < l1 - 1
    · have hrep : (4 : Int) - (s.length : Int) = ((4 - s.length : Nat) : Int) := by omega
      gi_wp2_with (first
        | (refine ⟨trivial, ?_⟩; gi_at_call 88; refine (CallsIn.inRound l (callsIn_wide.2 (HI _ HTW).out)).mono ?_; rintro e W1 ⟨rfl, hb1⟩; have cx2 := (cX.below hb1).cell1)
        | (refine ⟨trivial, ?_⟩; gi_at_call 122; refine (CallsIn.inRound l (callsIn_wide.2 (repeat_any (4 - s.length) _ (by omega)))).mono ?_; rintro e W2 ⟨rfl, hb2⟩))
      have st := hb1.trans (hb2.mono hb1.size)
      have hws := writeString_any (w.heap.size + 1) (w.heap.size + 1) (Lib.byteCells (upto n (k + 1))) ⟨(List.replicate (4 - s.length) 48 ++ s).toArray⟩ W2 (builder_later cB st) (by rw [Lib.byteCells_length, Lib.size_eq]; simp; omega) (by have := st.size; omega)
      rw [show ((⟨Array.replicate (4 - s.length) 48⟩ : ByteArray) ++ ⟨s.toArray⟩) = ⟨(List.replicate (4 - s.length) 48 ++ s).toArray⟩ by apply ByteArray.ext; simp]
      refine ⟨trivial, (CallsIn.inRound l (callsIn_wide.2 hws)).mono ?_⟩
      rintro e W3 ⟨rfl, hbl, hb3, ho3⟩
      gi_wp2
      exact tex_next hBw st cX cB cN hbl rfl hb3 ho3 (hlow hk).out
    · gi_wp2_with (first
        | (refine ⟨trivial, ?_⟩; gi_at_call 88; refine (CallsIn.inRound l (callsIn_wide.2 (HI _ HTW).out)).mono ?_; rintro e W1 ⟨rfl, hb1⟩; have cx2 := (cX.below hb1).cell1))
      have hws := writeString_any (w.heap.size + 1) (w.heap.size + 1) (Lib.byteCells (upto n (k + 1))) ⟨s.toArray⟩ W1 (builder_later cB hb1) (by rw [Lib.byteCells_length, Lib.size_eq]; simp; omega) (by have := hb1.size; omega)
      refine ⟨trivial, (CallsIn.inRound l (callsIn_wide.2 hws)).mono ?_⟩
      rintro e W3 ⟨rfl, hbl, hb3, ho3⟩
      gi_wp2
      exact tex_next hBw hb1 cX cB cN hbl rfl hb3 ho3 (htop hk).out
  case done =>
    rintro D W hD ⟨⟨cX, cB⟩, cN, hBw⟩ hK
    have hup : upto n 0 = Lib.decDigits n := by
      unfold upto
      rw [if_pos (by rw [hl.out]; exact hpos), Num.hi_zero]
    rw [hup] at cB
    have hsz := cN.lt
    have hcS := Tryz.Builder_String_any_k (w.heap.size + 1) (w.heap.size + 1) (Lib.decDigits n) W (Lib.IsBuilderF.of cB) (by omega)
    have hne : D ≠ w.heap.size + 1 := by
      rintro rfl
      obtain ⟨p', v', hb⟩ := isBuilder_cells cB
      rw [hb] at hK; cases hK
    clear bX bB bN hB0 hup cB
    have cx0 := cX.cell0
    generalize hs : Lib.decDigits n = s at hcS
    have HS := Lib.hid hs
    clear hs
    have fin : ∀ W2, Below (w.heap.size + 1) W W2 → Lib.OthersKept 5 (some (w.heap.size + 1)) W W2 → W2.heap[D]? = some (.deferred (some [])) ∧ W2.cell? ⟨w.heap.size, 0, none⟩ = some (.bool g) ∧ Below w.heap.size w (W2.putObj D (.deferred none)) := fun W2 hb ho => by
      have hD2 := ho D _ hK (by intro e; cases e; exact hne rfl) (fun c fz e => by cases e)
      exact ⟨hD2, (hb.cell (p := ⟨w.heap.size, 0, none⟩) (by simp)).trans cx0, (hBw.trans (hb.mono (by omega))).trans (belowK_b (w := w) (Nat.le_refl _) _ D _ _ (by simp at hD; omega) hD2 rfl rfl)⟩
    by_cases hlen : s.length ≤ 200
    · cases g with
      | true =>
        gi_wp2_with (refine ⟨trivial, ?_⟩; gi_at_call 124; refine (callsIn_wide.2 hcS).mono ?_; rintro e W2 ⟨rfl, -, hb2, ho2⟩; obtain ⟨hD2, cx2, hB2⟩ := fin W2 hb2 ho2; clear ho2)
        refine ⟨by simp, .inl ⟨_, _, rfl, run_takeDeferred hD2, ?_⟩⟩
        refine ⟨.tuple #[txt (45 :: s), .int .i64 0], ?_, by rw [HS.out, tres_minus hlen], hB2⟩
        simp [results, Tryz.f70, go_sem]
        apply ByteArray.ext
        simp
      | false =>
        gi_wp2_with (refine ⟨trivial, ?_⟩; gi_at_call 124; refine (callsIn_wide.2 hcS).mono ?_; rintro e W2 ⟨rfl, -, hb2, ho2⟩; obtain ⟨hD2, cx2, hB2⟩ := fin W2 hb2 ho2; clear ho2)
        refine ⟨by simp, .inl ⟨_, _, rfl, run_takeDeferred hD2, ?_⟩⟩
        refine ⟨.tuple #[txt s, .int .i64 0], ?_, by rw [HS.out, tres_plus hlen], hB2⟩
        simp [results, Tryz.f70, go_sem]
    · gi_wp2_with (refine ⟨trivial, ?_⟩; gi_at_call 124; refine (callsIn_wide.2 hcS).mono ?_; rintro e W2 ⟨rfl, -, hb2, ho2⟩; obtain ⟨hD2, cx2, hB2⟩ := fin W2 hb2 ho2; clear ho2)
      refine ⟨by simp, .inl ⟨_, _, rfl, run_takeDeferred hD2, ?_⟩⟩
      refine ⟨.tuple #[txt [], .int .i64 30], ?_, by rw [HS.out, tres_long hlen], hB2⟩
      simp [results, Tryz.f70, go_sem]
  case stop =>
    rintro D W hD h
    exact h.elim

set_option maxRecDepth 100000 in
set_option maxHeartbeats 1000000 in
theorem text_zero (w : World) (g : Bool) (a1 : Option Addr) (c1 : Nat) :
    Calls Tryz.prog 70 #[.agg #[.bool g, .slice a1 0 c1]] w fun e w' => e = .returned (.tuple #[txt [48], .int .i64 0]) ∧ Below w.heap.size w w' := by
  go_enter Tryz.func70, Tryz.ntmps70
  go_wp2
  refine bodyPost_ret (v := .tuple #[txt [48], .int .i64 0]) ?_ rfl ⟨rfl, (Below.refl _ w).alloc (Nat.le_refl _) _⟩
  simp [results, Tryz.results70, go_sem]

/-- What a function of the package returns for an integer: its text, or an error if it has too many digits. -/
def ires (z : Int) : Value := if z.natAbs < 10 ^ 200 then .tuple #[txt (Lib.itoa z), .int .i64 0] else .tuple #[txt [], .int .i64 30]
theorem ires_yes {z : Int} (h : z.natAbs < 10 ^ 200) : ires z = .tuple #[txt (Lib.itoa z), .int .i64 0] := if_pos h
theorem ires_no {z : Int} (h : ¬ z.natAbs < 10 ^ 200) : ires z = .tuple #[txt [], .int .i64 30] := if_neg h
theorem sig_zero (g : Bool) : sig g 0 = 0 := by cases g <;> rfl
theorem sig_abs (g : Bool) (n : Nat) : (sig g n).natAbs = n := by cases g <;> simp [sig]
theorem tres_sig {g : Bool} {n : Nat} (hn : n ≠ 0) : tres g (Lib.decDigits n) = ires (sig g n) := by
  by_cases h : n < 10 ^ 200
  · have hl := (Dec.decDigits_length n 200 (by decide)).2 h
    rw [ires_yes (by rw [sig_abs]; exact h)]
    cases g with
    | true =>
      rw [tres_minus hl, Dec.itoa_neg (by show -(n : Int) < 0; omega), sig_abs]
    | false =>
      rw [tres_plus hl, Dec.itoa_nonneg (by show (0 : Int) ≤ (n : Int); omega), sig_abs]
  · have hl : ¬ (Lib.decDigits n).length ≤ 200 := fun e => h ((Dec.decDigits_length n 200 (by decide)).1 e)
    rw [tres_long hl, ires_no (by rw [sig_abs]; exact h)]

/-- 'text'. -/
theorem text_any (w : World) (x : Value) (g : Bool) (n : Nat) (hA : Num.gl n ≤ 1000000) (ht : Tab w) (h1 : IsSig w.heap.size w x g n) :
    Calls Tryz.prog 70 #[x] w fun e w' => e = .returned (ires (sig g n)) ∧ Below w.heap.size w w' := by
  obtain ⟨v, rfl, a, cap, rfl, hc, hr⟩ := h1
  by_cases hn : n = 0
  · subst hn
    rw [sig_zero, Num.gl_zero, ires_yes (by decide), show Lib.itoa 0 = [48] by decide +kernel]
    exact text_zero w g a cap
  · rw [← tres_sig hn]
    exact text_walk w g a _ cap n (Lib.hid rfl) hA (Num.gl_pos.2 hn) ht hr
end Go.Proofs.YtkihodadopcioaaGreatDoor
