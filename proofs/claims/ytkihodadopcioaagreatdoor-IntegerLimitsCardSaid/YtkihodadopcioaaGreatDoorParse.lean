/- parse: the number that a valid text is. -/
import Derived.Test.YtkihodadopcioaaGreatDoorValid
import Derived.Test.YtkihodadopcioaaGreatDoorSigned
import Derived.Deep.LoopGhost
import Derived.OwnWalk
namespace Go.Proofs.YtkihodadopcioaaGreatDoor
open Go.Shelf Go.RowKit

namespace Dec
theorem digitVal_digit {b : UInt8} (h : IsDigit b) : Lib.digitVal b = some (b.toNat - 48) := by unfold Lib.digitVal; exact if_pos h
theorem decFrom_digits (l : List UInt8) : ∀ acc, Digits l → Lib.decFrom acc l = some (acc * 10 ^ l.length + dval l) := by
  induction l with
  | nil => intro acc _; simp [Lib.decFrom, dval]
  | cons b l ih =>
    intro acc h
    unfold Lib.decFrom
    rw [digitVal_digit (h b List.mem_cons_self)]
    show Lib.decFrom (acc * 10 + (b.toNat - 48)) l = _
    rw [ih _ (fun x hx => h x (List.mem_cons_of_mem _ hx)), dval_cons, List.length_cons, Nat.pow_succ, Nat.add_mul, Nat.mul_comm (10 ^ l.length) 10, Nat.mul_assoc]
    congr 1
    omega
theorem atoi_digits {l : List UInt8} (h : Digits l) (hne : l ≠ []) : Lib.atoi l = some (dval l : Int) := by
  cases l with
  | nil => exact absurd rfl hne
  | cons b l =>
    have hb := h b List.mem_cons_self
    have h1 : (b == 45) = false := by
      rw [beq_eq_false_iff_ne]; rintro rfl; exact absurd hb (by decide)
    have h2 : (b == 43) = false := by
      rw [beq_eq_false_iff_ne]; rintro rfl; exact absurd hb (by decide)
    show (if b == 45 then (Lib.decNat l).map fun (m : Nat) => -(m : Int) else if b == 43 then (Lib.decNat l).map fun (m : Nat) => (m : Int) else (Lib.decNat (b :: l)).map fun (m : Nat) => (m : Int)) = _
    rw [h1, h2]
    show (Lib.decNat (b :: l)).map _ = _
    unfold Lib.decNat
    show (Lib.decFrom 0 (b :: l)).map _ = _
    rw [decFrom_digits _ _ h]
    simp
end Dec

/-- The four last digits. -/
theorem chunk {m : List UInt8} (h : Dec.Digits m) (hne : m ≠ []) : ∃ a c, m = a ++ c ∧ a.length = m.length - 4 ∧ c ≠ [] ∧ c.length ≤ 4 ∧ (a ≠ [] → c.length = 4) ∧ Dec.Digits a ∧ Dec.Digits c ∧ Dec.dval c < 10000 ∧ Lib.atoi c = some (Dec.dval c : Int) := by
  have hlen : 0 < m.length := List.length_pos_iff.2 hne
  have hc : (m.drop (m.length - 4)).length ≤ 4 := by rw [List.length_drop]; omega
  have hcn : m.drop (m.length - 4) ≠ [] := by
    rw [← List.length_pos_iff, List.length_drop]; omega
  have hd : Dec.Digits (m.drop (m.length - 4)) := fun b hb => h b (List.mem_of_mem_drop hb)
  refine ⟨m.take (m.length - 4), m.drop (m.length - 4), (List.take_append_drop _ _).symm, by rw [List.length_take]; omega, hcn, hc, fun ha => ?_, fun b hb => h b (List.mem_of_mem_take hb), hd, ?_, Dec.atoi_digits hd hcn⟩
  · rw [← List.length_pos_iff, List.length_take] at ha
    rw [List.length_drop]; omega
  · have := Dec.dval_lt hd
    exact Nat.lt_of_lt_of_le this (Nat.pow_le_pow_right (by decide) hc)

/-- A row of one's own stays one under what changes no older block. -/
theorem own_later {w w' : World} {base size n : Nat} {e : TypeId} {v : Value} {xs : List Value} (h : w.ownsRow base e size v n xs) (hb : Below w.heap.size w w') : w'.ownsRow base e size v n xs := by
  rcases h with ⟨h1, h2 | ⟨g, cap, cur, rfl, hg, hh, hr⟩⟩
  · exact ⟨h1, .inl h2⟩
  · exact ⟨h1, .inr ⟨g, cap, cur, rfl, hg, (hb.block g (Array.getElem?_eq_some_iff.1 hh).1).trans hh, hr⟩⟩

theorem Boxed2.grown {w w' : World} {B : Nat} {t : TypeId} {u v : Value} {row : Option Nat} (h : Boxed2 w B t u v) (hg : w.grownBy w' row) (hne : row ≠ some B) : Boxed2 w' B t u v := (hg.block B h.lt (fun e => hne e.symm)).trans h
theorem extract_tail (a c : List UInt8) : (⟨(a ++ c).toArray⟩ : ByteArray).extract a.length (a.length + c.length) = ⟨c.toArray⟩ := by
  apply ByteArray.ext
  simp [ByteArray.data_extract]
theorem extract_head (a c : List UInt8) : (⟨(a ++ c).toArray⟩ : ByteArray).extract 0 a.length = ⟨a.toArray⟩ := by
  apply ByteArray.ext
  simp [ByteArray.data_extract]
theorem atoi_tail (a c : List UInt8) (n : Nat) (W : World) (hc4 : c.length ≤ 4) (h : Lib.atoi c = some (n : Int)) :
    Calls Tryz.prog 87 #[.string ((⟨(a ++ c).toArray⟩ : ByteArray).extract a.length (a.length + c.length))] W fun e w' => e = .returned (.tuple #[.int .i64 (n : Int), .nilIface]) ∧ Below W.heap.size W w' := by
  rw [extract_tail]
  refine (Tryz.strconv_Atoi ⟨c.toArray⟩ (n : Int) (by rw [Lib.size_eq]; simp; omega) h W).mono ?_
  rintro e w' ⟨rfl, t, rfl⟩
  exact ⟨rfl, Lib.bytesWorld_below _ _ _⟩

/-- What a round of 'parse' keeps: what is left of the digits, and the groups so far. -/
structure Parsed (u m : List UInt8) (l : List Nat) : Prop where
  sum : Dec.dval u = Num.val l + 10000 ^ l.length * Dec.dval m
  dig : Num.Dig l
  dgs : Dec.Digits m
  len : 4 * l.length + m.length ≤ u.length + 4
  len4 : m ≠ [] → 4 * l.length + m.length = u.length
theorem Parsed.next {u a c : List UInt8} {l : List Nat} (h : Parsed u (a ++ c) l) (h4 : a ≠ [] → c.length = 4) (hc : c ≠ []) (hc4 : c.length ≤ 4) (hlt : Dec.dval c < 10000) : Parsed u a (l ++ [Dec.dval c]) := by
  have hd : Dec.Digits a := fun b hb => h.dgs b (List.mem_append_left _ hb)
  have hlen := h.len4 (by simp [hc])
  rw [List.length_append] at hlen
  refine ⟨?_, Num.Dig.append h.dig (by intro x hx; simp at hx; omega), hd, ?_, fun ha => ?_⟩
  · rw [h.sum, Dec.dval_append, Num.val_append]
    by_cases ha : a = []
    · subst ha
      simp [Dec.dval, Num.val]
    · rw [h4 ha]
      have e1 : Dec.dval a * 10 ^ 4 = 10000 * Dec.dval a := Nat.mul_comm _ _
      have e2 : 10000 ^ l.length * 10000 * Dec.dval a = 10000 ^ l.length * (10000 * Dec.dval a) := Nat.mul_assoc _ _ _
      simp only [List.length_append, List.length_singleton, Num.val, Nat.mul_add, Nat.mul_zero, Nat.add_zero] at *
      rw [e1, Nat.pow_succ, e2]
      omega
  · simp only [List.length_append, List.length_singleton]
    have := List.length_pos_iff.2 hc
    omega
  · simp only [List.length_append, List.length_singleton]
    have := h4 ha
    omega

set_option maxRecDepth 100000 in
set_option maxHeartbeats 2000000 in
theorem parse_any (l : List UInt8) (w : World) (hl : l.length ≤ 1000000) (hd : Dec.Digits (Dec.unsign l)) :
    Calls Tryz.prog 120 #[.string ⟨l.toArray⟩] w fun e w' => (∃ x, e = .returned x ∧ IsSig w'.heap.size w' x (decide ((Dec.unsign l).length < l.length)) (Dec.dval (Dec.unsign l))) ∧ Below w.heap.size w w' := by
  obtain ⟨i0, hi, hz0, hz1, hz2⟩ := info_parts int_info
  have HT : ∀ W, Calls Tryz.prog 127 #[.string ⟨l.toArray⟩, .string { data := #[45] }] W fun e w' => e = .returned (.string ⟨(Dec.unsign l).toArray⟩) ∧ w' = W := fun W => by
    rw [← trimPrefix_minus]
    exact Tryz.strings_TrimPrefix ⟨l.toArray⟩ ⟨#[45]⟩ W
  have hul : (Dec.unsign l).length ≤ l.length := by
    unfold Dec.unsign
    split <;> simp
  generalize Dec.unsign l = u at HT hul hd ⊢
  have HD := Lib.hid hd
  clear hd
  have b0 := Boxed2.new w 94 (.bool false) (.slice none 0 0)
  have b0' := b0.alloc (.cells #[.bool (decide (u.length < l.length)), .slice none 0 0] 94)
  have b1 := Boxed2.new (w.alloc (.cells #[.bool false, .slice none 0 0] 94)) 94 (.bool (decide (u.length < l.length))) (.slice none 0 0)
  have hbw : Below w.heap.size w ((w.alloc (.cells #[.bool false, .slice none 0 0] 94)).alloc (.cells #[.bool (decide (u.length < l.length)), .slice none 0 0] 94)) := ((Below.refl _ w).alloc (Nat.le_refl _) _).alloc (by simp) _
  have hsz : ((w.alloc (.cells #[.bool false, .slice none 0 0] 94)).alloc (.cells #[.bool (decide (u.length < l.length)), .slice none 0 0] 94)).heap.size = w.heap.size + 2 := by simp
  simp only [World.size_alloc] at b1
  go_enter Tryz.func120, Tryz.ntmps120
  go_wp2_with (go_at_call 127; refine (HT _).mono ?_; rintro e w1 ⟨rfl, rfl⟩)
  generalize hng : decide (u.length < l.length) = ng at b1 b0' hbw hsz ⊢
  have HG := Lib.hid hng
  clear hng
  generalize (w.alloc (.cells #[.bool false, .slice none 0 0] 94)).alloc (.cells #[.bool ng, .slice none 0 0] 94) = W at b1 b0' hbw hsz ⊢
  go_loopg [3] u.length (fun kx s wr => ∃ (m : List UInt8) (o : List Nat) (v : Value), s = .string ⟨m.toArray⟩ ∧ kx = m.length ∧ Boxed2 wr (w.heap.size + 1) 94 (.bool ng) v ∧ Boxed2 wr w.heap.size 94 (.bool false) (.slice none 0 0) ∧
    wr.ownsRow (w.heap.size + 2) 3 1 v o.length (o.map dv) ∧ Below w.heap.size w wr ∧ w.heap.size + 2 ≤ wr.heap.size ∧ Hid (Parsed u m o))
  case atStart => exact ⟨u, [], .slice none 0 0, rfl, rfl, b1, b0', World.ownsRow_nil _ _ _ _, hbw, by omega, Lib.hid ⟨by simp [Num.val], by simp [Num.Dig], HD.out, by simp, fun _ => by simp⟩⟩
  case round =>
    obtain ⟨m, o, v, rfl, hkx, bx, br, hown, hbr, hsr, HI⟩ := hrel
    clear b0 b0' b1 hbw hsz
    by_cases hm : m = []
    · subst hm
      have hov := row_of_own hown
      obtain ⟨pa, pc, rfl, hcap, hrow, -⟩ := hov
      have hol : o.length ≤ 1000000000 := by have := HI.out.len; simp at this; omega
      have hval : Num.val o = Dec.dval u := by rw [HI.out.sum]; simp [Dec.dval]
      have HR := Lib.hid (trimmed_any wr.heap.size wr pa o pc HI.out.dig hcap hol hrow)
      rw [hval] at HR
      have cx0 := bx.cell0
      have cx1 := bx.cell1
      have fx1 := bx.frozen1
      have cy0 := br.cell0
      have cy1 := br.cell1
      have fy0 := br.frozen0
      have fy1 := br.frozen1
      clear hown hrow hval
      go_wp2_with (go_at_call 129; refine HR.out.mono ?_; rintro e w' ⟨⟨pv, rfl, hpv⟩, rfl⟩; have hpn := Lib.hid hpv; obtain ⟨pa', pc', rfl, -, -⟩ := hpv)
      have bx3 := bx.set1 (.slice pa' (Num.gl (Dec.dval u)) pc')
      have hE := sig_end (w := w) (W := wr.setCell ⟨w.heap.size + 1, 1, none⟩ (.slice pa' (Num.gl (Dec.dval u)) pc')) (C := w.heap.size) (g := ng) (Nat.le_refl _) ((Below.heap_setCell wr ⟨w.heap.size + 1, 1, none⟩ _ w.heap.size (by simp)).trans br) (hbr.setCell (p := ⟨w.heap.size + 1, 1, none⟩) (by simp) _) (by rw [setCell_size]; exact hpn.out.set_box2 bx (p := ⟨w.heap.size + 1, 1, none⟩) rfl _)
      refine bodyPost_ret (v := .agg #[.bool ng, .slice pa' (Num.gl (Dec.dval u)) pc']) ?_ rfl ⟨⟨_, rfl, by rw [HG.out]; exact hE.2.1⟩, hE.2.2⟩
      simp [results, Tryz.results120, go_sem, hE.1.1, hE.1.2]
    · obtain ⟨a, c, rfl, ha, hc, hc4, ha4, hda, hdc, hv, hat⟩ := chunk HI.out.dgs hm
      have hol : o.length ≤ 1000000000 := by have := HI.out.len; omega
      have HN := Lib.hid (HI.out.next ha4 hc hc4 hv)
      have HA := Lib.hid ha
      have HC := Lib.hid hc
      have hmx : max 0 (wrap64 ((a.length : Int) + (c.length : Int) - 4)) = (a.length : Int) := by
        have := List.length_pos_iff.2 hc
        have hb := HI.out.len
        rw [List.length_append] at ha hb
        unfold wrap64
        omega
      have hpos : (0 : Int) < (a.length : Int) + (c.length : Int) := by
        have := List.length_pos_iff.2 hc
        omega
      clear ha hc ha4 hda hdc hm
      have HAT := fun W => Lib.hid (atoi_tail a c (Dec.dval c) W hc4 hat)
      clear hat
      generalize Dec.dval c = dc at *
      go_wp2_with fail
      refine (HAT _).out.mono ?_
      rintro e w2 ⟨rfl, hb2⟩
      have bx2 := bx.below hb2
      have br2 := br.below hb2
      have own2 := own_later hown hb2
      have cx1 := bx2.cell1
      have fx1 := bx2.frozen1
      go_wp2_with ((at_builtin; refine wpList_append_own _ rfl _ _ 92 rfl (w.heap.size + 2) 3 i0 (.int .i64 0) 1 8 Tryz.underlying92 hi hz0 hz1 hz2 rfl (by decide) _ _ _ rfl (own2.alloc _) ⟨w2.heap.size, 0, none⟩ 1 1 [.int .i64 (dc : Int)] rfl rfl (cell_one_new _ _ _) (by simp [Value.oneCell']) (by unfold maxLen; omega) (by omega) (by have := hb2.size; simp; omega) ?_))
      intro v' w3 hown' hgrow _
      have bx3 := (bx2.alloc _).grown hgrow (fun e => by have := (own2.lt _ e).1; omega)
      have br3 := (br2.alloc _).grown hgrow (fun e => by have := (own2.lt _ e).1; omega)
      have fx3 := bx3.frozen1
      have cx3 := bx3.cell1
      have hsz2 := hb2.size
      have hb3 : Below w.heap.size w w3 := ((hbr.trans (hb2.mono hbr.size)).alloc (by omega) _).grown hgrow (by simp; omega) (fun k e => by have := (own2.lt _ e).1; omega)
      have hsz3 := hgrow.size
      obtain ⟨pa, pn, pc, rfl⟩ : ∃ pa pn pc, v' = .slice pa pn pc := by
        rcases hown'.2 with ⟨hv, _⟩ | ⟨g, cap, cur, hv, _⟩
        · exact ⟨_, _, _, hv⟩
        · exact ⟨_, _, _, hv⟩
      go_wp2
      go_roundg a.length
      case measure =>
        have := List.length_pos_iff.2 HC.out
        have e := hkx
        rw [List.length_append] at e; omega
      case rel =>
        refine ⟨a, o ++ [dc], .slice pa pn pc, by rw [extract_head], rfl, bx3.set1 _, ?_, ?_, hb3.setCell (p := ⟨w.heap.size + 1, 1, none⟩) (by simp) _, by rw [setCell_size]; simp at hsz3; omega, HN⟩
        · exact (Below.heap_setCell w3 ⟨w.heap.size + 1, 1, none⟩ _ w.heap.size (by simp)).trans br3
        · refine ownsRow_setCell_below ?_ (by simp) _
          rw [List.length_append, List.map_append]
          exact hown'

theorem unsign_itoa_lt (z : Int) : decide ((Dec.unsign (Lib.itoa z)).length < (Lib.itoa z).length) = decide (z < 0) := by
  rw [Dec.unsign_itoa]
  rcases Int.lt_or_le z 0 with h | h
  · rw [Dec.itoa_neg h]; simp [h]
  · rw [Dec.itoa_nonneg h]
    have : ¬ z < 0 := by omega
    simp [this]
theorem itoa_length (z : Int) (h : z.natAbs < 10 ^ 200) : (Lib.itoa z).length ≤ 201 := by
  have h2 := (Dec.decDigits_length z.natAbs 200 (by decide)).2 h
  rcases Int.lt_or_le z 0 with h | h
  · rw [Dec.itoa_neg h, List.length_cons]; omega
  · rw [Dec.itoa_nonneg h]; omega

/-- 'parse' of a number's text. -/
theorem parse_itoa (z : Int) (w : World) (hz : z.natAbs < 10 ^ 200) :
    Calls Tryz.prog 120 #[.string ⟨(Lib.itoa z).toArray⟩] w fun e w' => (∃ x, e = .returned x ∧ IsSig w'.heap.size w' x (decide (z < 0)) z.natAbs) ∧ Below w.heap.size w w' := by
  have h := parse_any (Lib.itoa z) w (by have := itoa_length z hz; omega) (by rw [Dec.unsign_itoa]; exact Dec.decDigits_digits _)
  rw [unsign_itoa_lt, Dec.unsign_itoa, Dec.dval_decDigits] at h
  exact h
end Go.Proofs.YtkihodadopcioaaGreatDoor
