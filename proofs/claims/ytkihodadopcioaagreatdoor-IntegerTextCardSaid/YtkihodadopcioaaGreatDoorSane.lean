/- The reference's inputs as numbers; Compare, Gcd; the fixed examples; the contracts' forms for laws. -/
import Derived.Test.YtkihodadopcioaaGreatDoorPIntegerMatchesReferencex5
import Derived.Test.YtkihodadopcioaaGreatDoorStr
import Derived.Test.YtkihodadopcioaaGreatDoorArith
import Derived.BigQuiet
import Derived.Test.YtkihodadopcioaaGreatDoorOver
import Derived.Deep.LoopGhost
import Derived.WalkSmall
import Derived.Test.YtkihodadopcioaaGreatDoorDiv
import Derived.Test.YtkihodadopcioaaGreatDoorMul
namespace Go.Proofs.YtkihodadopcioaaGreatDoor
open Go.RowKit Go.Shelf PIntegerMatchesReference Go.Proofs.YtkihodadopcioaaGreatDoorW.PrintWords

/-- Digits as the printed functions hold them. -/
abbrev iz (l : List Nat) : List Int := l.map fun (d : Nat) => (d : Int)
def rtN (l : List Nat) : List Nat := (l.reverse.dropWhile (· == 0)).reverse
theorem rtN_nil : rtN [] = [] := rfl
theorem rtN_zero (m : List Nat) : rtN (m ++ [0]) = rtN m := by unfold rtN; simp
theorem rtN_last (m : List Nat) {d : Nat} (h : d ≠ 0) : rtN (m ++ [d]) = m ++ [d] := by unfold rtN; simp [h]
theorem wrap_small {i : Int} (h0 : -1000000000000 ≤ i) (h : i ≤ 1000000000000) : wrap64 i = i := by unfold wrap64; omega
theorem rd_iz (m r : List Nat) (d : Nat) : rd (iz (m ++ d :: r)) (m.length : Int) = (d : Int) := by
  unfold rd
  simp [iz, List.getD]

theorem trim_pure : ∀ (n : Nat) (ds : List Nat) (k : Nat), ds.length = n → n < k → n ≤ 1000000000 → yardstickref03_trim.l0 k (iz ds) = some (iz (rtN ds)) := by
  intro n
  induction n with
  | zero =>
    intro ds k hn hk _
    obtain ⟨k, rfl⟩ : ∃ m, k = m + 1 := ⟨k - 1, by omega⟩
    rw [List.eq_nil_of_length_eq_zero hn]
    simp [yardstickref03_trim.l0, rtN]
  | succ n ih =>
    intro ds k hn hk hb
    obtain ⟨k, rfl⟩ : ∃ m, k = m + 1 := ⟨k - 1, by omega⟩
    obtain ⟨m, d, rfl⟩ : ∃ m d, ds = m ++ [d] := ⟨ds.dropLast, ds.getLast (by intro e; rw [e] at hn; simp at hn), (List.dropLast_concat_getLast _).symm⟩
    have hm : m.length = n := by simpa using hn
    have hlen : ((iz (m ++ [d])).length : Int) = (n : Int) + 1 := by simp [iz, hm]
    have hw : wrap64 (((iz (m ++ [d])).length : Int) - 1) = (m.length : Int) := by rw [hlen, hm, wrap_small (by omega) (by omega)]; omega
    simp only [yardstickref03_trim.l0]
    rw [hw, rd_iz m [] d, if_pos (by omega), if_pos (by omega), if_pos (by omega)]
    by_cases hd : d = 0
    · subst hd
      rw [if_pos (show ((0 : Nat) : Int) = 0 from rfl), if_pos (by omega), rtN_zero]
      have e : (iz (m ++ [0])).take (m.length : Int).toNat = iz m := by simp [iz]
      rw [e]
      exact ih m k hm (by omega) (by omega)
    · rw [if_neg (by omega), rtN_last m hd]

/-- Digits, the highest one first, as numbers of bytes. -/
def nums (l : List Nat) : List Int := l.reverse.map fun (d : Nat) => (48 + d : Int)
theorem text_pure (ds : List Nat) (hd : ∀ d ∈ ds, d < 10) (hb : ds.length ≤ 1000000000) : ∀ (j k : Nat) (acc : List Int), j ≤ ds.length → j < k → acc.length + j ≤ 2000000000 →
    yardstickref03_text.l0 k (iz ds) acc ((j : Int) - 1) = some (strOfNums (acc ++ nums (ds.take j)), decide ((ds.length : Int) ≤ 200)) := by
  intro j
  induction j with
  | zero =>
    intro k acc _ hk _
    obtain ⟨k, rfl⟩ : ∃ m, k = m + 1 := ⟨k - 1, by omega⟩
    simp [yardstickref03_text.l0, nums, iz]
  | succ j ih =>
    intro k acc hj hk hacc
    obtain ⟨k, rfl⟩ : ∃ m, k = m + 1 := ⟨k - 1, by omega⟩
    obtain ⟨m, d, r, rfl, hm⟩ : ∃ m d r, ds = m ++ d :: r ∧ m.length = j := by
      refine ⟨ds.take j, ds[j]'(by omega), ds.drop (j + 1), ?_, by rw [List.length_take]; omega⟩
      rw [List.getElem_cons_drop, List.take_append_drop]
    have hdd := hd d (by simp)
    have hi : ((j + 1 : Nat) : Int) - 1 = (m.length : Int) := by omega
    have hlen : ((iz (m ++ d :: r)).length : Int) = ((m ++ d :: r).length : Int) := by simp [iz]
    have hj' : (m.length : Int) < ((m ++ d :: r).length : Int) := by simp; omega
    simp only [yardstickref03_text.l0]
    rw [hi, rd_iz m r d, if_pos (by omega), if_pos (by omega), hlen, if_pos hj', if_pos (by omega), wrap_small (by omega) (by omega), wrap_small (by omega) (by omega)]
    rw [show ((48 : Int) + (d : Int)) % 256 = 48 + (d : Int) by omega, hm]
    rw [ih k (acc ++ [48 + (d : Int)]) (by omega) (by omega) (by simp; omega)]
    congr 2
    rw [List.append_assoc]
    congr 2
    unfold nums
    rw [show j = m.length from hm.symm, List.take_append_of_le_length (Nat.le_refl _), List.take_length]
    rw [show m.length + 1 = (m ++ [d]).length by simp, show m ++ d :: r = (m ++ [d]) ++ r by simp, List.take_left']
    · simp
    · rfl

/-! ### The text of digits -/
def val10 : List Nat → Nat
  | [] => 0
  | d :: r => d + 10 * val10 r
theorem val10_snoc_zero (m : List Nat) : val10 (m ++ [0]) = val10 m := by
  induction m with
  | nil => rfl
  | cons d m ih => simp [val10, ih]
theorem rtN_facts : ∀ (n : Nat) (ds : List Nat), ds.length = n → val10 (rtN ds) = val10 ds ∧ (∀ d ∈ rtN ds, d ∈ ds) ∧ (rtN ds).length ≤ ds.length ∧ (∀ d, (rtN ds).getLast? = some d → d ≠ 0) := by
  intro n
  induction n with
  | zero =>
    intro ds hn
    rw [List.eq_nil_of_length_eq_zero hn]
    exact ⟨rfl, fun d h => h, Nat.le_refl _, fun d h => by simp [rtN] at h⟩
  | succ n ih =>
    intro ds hn
    obtain ⟨m, d, rfl⟩ : ∃ m d, ds = m ++ [d] := ⟨ds.dropLast, ds.getLast (by intro e; rw [e] at hn; simp at hn), (List.dropLast_concat_getLast _).symm⟩
    by_cases hd : d = 0
    · subst hd
      obtain ⟨h1, h2, h3, h4⟩ := ih m (by simpa using hn)
      rw [rtN_zero]
      exact ⟨by rw [h1, val10_snoc_zero], fun x hx => by simp [h2 x hx], by simp; omega, h4⟩
    · rw [rtN_last m hd]
      exact ⟨rfl, fun x hx => hx, Nat.le_refl _, fun x hx => by simp at hx; omega⟩
def byts (l : List Nat) : List UInt8 := l.reverse.map fun d => UInt8.ofNat (48 + d)
theorem byts_dval (l : List Nat) (h : ∀ d ∈ l, d < 10) : Dec.dval (byts l) = val10 l ∧ Dec.Digits (byts l) := by
  induction l with
  | nil => exact ⟨rfl, by intro b hb; simp [byts] at hb⟩
  | cons d l ih =>
    obtain ⟨h1, h2⟩ := ih (fun x hx => h x (List.mem_cons_of_mem _ hx))
    have hd := h d List.mem_cons_self
    have e : byts (d :: l) = byts l ++ [UInt8.ofNat (48 + d)] := by simp [byts]
    rw [e]
    constructor
    · rw [Dec.dval_snoc, h1, Dec.digit_toNat hd]
      show _ = d + 10 * val10 l
      omega
    · intro b hb
      rw [List.mem_append] at hb
      rcases hb with hb | hb
      · exact h2 b hb
      · simp only [List.mem_singleton] at hb
        subst hb
        unfold Dec.IsDigit
        rw [Dec.digit_toNat hd]; omega
theorem byts_dec {l : List Nat} (h : ∀ d ∈ l, d < 10) (hne : l ≠ []) (hl : ∀ d, l.getLast? = some d → d ≠ 0) : byts l = Lib.decDigits (val10 l) := by
  obtain ⟨h1, h2⟩ := byts_dval l h
  rw [← h1]
  refine (Dec.decDigits_dval h2 (by simp [byts, hne]) (.inr ?_)).symm
  obtain ⟨m, d, rfl⟩ : ∃ m d, l = m ++ [d] := ⟨l.dropLast, l.getLast hne, (List.dropLast_concat_getLast _).symm⟩
  have hd := hl d (by simp)
  have hd10 := h d (by simp)
  simp only [byts, List.reverse_append, List.reverse_singleton, List.singleton_append, List.map_cons, List.head?_cons, ne_eq, Option.some.injEq]
  intro e
  have := congrArg UInt8.toNat e
  rw [Dec.digit_toNat hd10] at this
  simp at this
  omega
theorem val10_ne {l : List Nat} (hne : l ≠ []) (hl : ∀ d, l.getLast? = some d → d ≠ 0) : val10 l ≠ 0 := by
  induction l with
  | nil => exact absurd rfl hne
  | cons d r ih =>
    cases r with
    | nil => have := hl d rfl; simpa [val10] using this
    | cons e r =>
      have := ih (by simp) (fun x hx => hl x (by simpa using hx))
      show d + 10 * _ ≠ 0
      omega
theorem val10_lt {l : List Nat} (h : ∀ d ∈ l, d < 10) : val10 l < 10 ^ l.length := by
  induction l with
  | nil => simp [val10]
  | cons d r ih =>
    have h1 := ih (fun x hx => h x (List.mem_cons_of_mem _ hx))
    have h2 := h d List.mem_cons_self
    rw [List.length_cons, Nat.pow_succ]
    show d + 10 * val10 r < _
    omega

theorem strOfNums_nums (acc : List UInt8) (l : List Nat) (h : ∀ d ∈ l, d < 10) : strOfNums ((acc.map fun b => (b.toNat : Int)) ++ nums l) = ⟨(acc ++ byts l).toArray⟩ := by
  unfold strOfNums
  congr 2
  rw [List.map_append, List.map_map]
  congr 1
  · conv => rhs; rw [← List.map_id acc]
    apply List.map_congr_left
    intro b _
    simp
  · unfold nums byts
    rw [List.map_map]
    apply List.map_congr_left
    intro d hd
    have := h d (by simpa using hd)
    simp only [Function.comp]
    congr 1

/-- The reference's text of digits without zeros ahead. -/
theorem text_is (g : Bool) (ds : List Nat) (k : Nat) (hd : ∀ d ∈ ds, d < 10) (hl : ∀ d, ds.getLast? = some d → d ≠ 0) (hb : ds.length ≤ 1000000000) (hk : ds.length + 1 < k) :
    yardstickref03_text.f k g (iz ds) = some (⟨(Lib.itoa (sig g (val10 ds))).toArray⟩, decide ((ds.length : Int) ≤ 200)) := by
  by_cases hne : ds = []
  · subst hne
    have : Lib.itoa (sig g (val10 [])) = [48] := by rw [show val10 [] = 0 from rfl, sig_zero]; decide +kernel
    rw [this]
    simp [yardstickref03_text.f]
  · have hpos : 0 < ds.length := List.length_pos_iff.2 hne
    have hn := val10_ne hne hl
    have hbd := byts_dec hd hne hl
    obtain ⟨k, rfl⟩ : ∃ m, k = m + 1 := ⟨k - 1, by omega⟩
    have hlen : ((iz ds).length : Int) = (ds.length : Int) := by simp [iz]
    unfold yardstickref03_text.f
    rw [hlen, if_neg (by omega)]
    have h1 := text_pure ds hd hb ds.length k
    rw [List.take_length] at h1
    cases g with
    | true =>
      rw [if_pos rfl, if_pos (by simp)]
      simp only [yardstickref03_text.j0]
      rw [hlen, wrap_small (by omega) (by omega), h1 _ (Nat.le_refl _) (by omega) (by simp; omega)]
      have h2 := strOfNums_nums [45] ds hd
      rw [Dec.itoa_neg (by show -((val10 ds : Nat) : Int) < 0; omega), sig_abs, ← hbd]
      simp only [List.map_cons, List.map_nil, List.singleton_append, List.nil_append] at h2 ⊢
      rw [← h2]
      rfl
    | false =>
      rw [if_neg (by simp)]
      simp only [yardstickref03_text.j0]
      rw [hlen, wrap_small (by omega) (by omega), h1 _ (Nat.le_refl _) (by omega) (by simp; omega)]
      have h2 := strOfNums_nums [] ds hd
      rw [Dec.itoa_nonneg (by show (0 : Int) ≤ ((val10 ds : Nat) : Int); omega), sig_abs, ← hbd]
      simp only [List.map_nil, List.nil_append] at h2 ⊢
      rw [← h2]

/-! ### Made -/
def mds (l : List UInt8) (most : Nat) : List Nat := (l.take most).map fun b => b.toNat % 10
def mneg (l : List UInt8) : Bool := match l with
  | [] => false
  | b :: _ => decide (128 ≤ b.toNat)
/-- The integer that a string determines. -/
def madeZ (l : List UInt8) (most : Nat) : Int := sig (mneg l) (val10 (mds l most))
theorem mds_lt (l : List UInt8) (most : Nat) : ∀ d ∈ mds l most, d < 10 := by
  intro d hd
  obtain ⟨b, _, rfl⟩ := List.mem_map.1 hd
  omega
theorem mds_length (l : List UInt8) (most : Nat) : (mds l most).length = min most l.length := by unfold mds; rw [List.length_map, List.length_take]
theorem madeZ_lt (l : List UInt8) (most : Nat) : (madeZ l most).natAbs < 10 ^ most := by
  unfold madeZ
  rw [sig_abs]
  refine Nat.lt_of_lt_of_le (val10_lt (mds_lt l most)) (Nat.pow_le_pow_right (by omega) ?_)
  rw [mds_length]; omega

theorem mneg_bt (s : ByteArray) (h : 0 < s.size) : decide (bt s 0 ≥ 128) = mneg s.data.toList := by
  obtain ⟨b, r, hl⟩ : ∃ b r, s.data.toList = b :: r := List.exists_cons_of_ne_nil (by intro e; rw [Lib.size_eq, e] at h; simp at h)
  have h0 : bt s 0 = (b.toNat : Int) := by
    unfold bt
    rw [dif_pos (show (0 : Int).toNat < s.size from h)]
    have : s[(0 : Int).toNat]'h = s.data.toList[0]'(by rw [hl]; simp) := by simp [ByteArray.getElem_eq_getElem_data]
    rw [this]
    simp [hl]
  rw [h0, hl]
  unfold mneg
  simp
  omega

/-- What follows the loop. -/
def madeEnd (k : Nat) (s : ByteArray) (x5 : List Int) : Option ByteArray := if (s.size : Int) > 0 then (if 0 < (s.size : Int) then ((yardstickref03_trim.f k x5).bind fun t => ((yardstickref03_text.f k (decide ((bt s 0) ≥ 128)) t).bind fun b => (some b.1))) else (none)) else ((yardstickref03_trim.f k x5).bind fun t => ((yardstickref03_text.f k false t).bind fun b => (some b.1)))
theorem madeEnd_is (s : ByteArray) (most k : Nat) (hs : most ≤ 1000000) (hk : most + 2 < k) : madeEnd k s (iz (mds s.data.toList most)) = some ⟨(Lib.itoa (madeZ s.data.toList most)).toArray⟩ := by
  have hlen := mds_length s.data.toList most
  rw [← Lib.size_eq] at hlen
  have hlt : (mds s.data.toList most).length ≤ most := by omega
  obtain ⟨h1, h2, h3, h4⟩ := rtN_facts _ (mds s.data.toList most) rfl
  have e1 := trim_pure _ (mds s.data.toList most) k rfl (by omega) (by omega)
  have e2 := fun g => text_is g (rtN (mds s.data.toList most)) k (fun d hd => mds_lt _ _ d (h2 d hd)) h4 (by omega) (by omega)
  rw [h1] at e2
  unfold madeEnd yardstickref03_trim.f
  rw [e1]
  simp only [Option.bind_some]
  by_cases h0 : (s.size : Int) > 0
  · rw [if_pos h0, if_pos h0, mneg_bt s (by omega), e2]
    rfl
  · rw [if_neg h0, e2]
    have hl : s.data.toList = [] := by
      rw [Lib.size_eq] at h0
      exact List.eq_nil_of_length_eq_zero (by omega)
    rw [hl]
    rfl
theorem made_pure (s : ByteArray) (most : Nat) (hs : most ≤ 1000000) : ∀ (j k i : Nat), i + j = min most s.size → j + most + 3 < k → yardstickref03_Made.l0 k s (most : Int) (iz (mds s.data.toList i)) (i : Int) = some ⟨(Lib.itoa (madeZ s.data.toList most)).toArray⟩ := by
  intro j
  induction j with
  | zero =>
    intro k i hi hk
    obtain ⟨k, rfl⟩ : ∃ m, k = m + 1 := ⟨k - 1, by omega⟩
    have he : mds s.data.toList i = mds s.data.toList most := by
      unfold mds
      congr 1
      rw [Lib.size_eq] at hi
      rcases Nat.le_total most s.data.toList.length with h | h
      · rw [show i = most by omega]
      · rw [List.take_of_length_le h, List.take_of_length_le (by omega)]
    have hE := madeEnd_is s most k hs (by omega)
    rw [he]
    unfold madeEnd at hE
    simp only [yardstickref03_Made.l0]
    by_cases h1 : (i : Int) < (s.size : Int)
    · rw [if_pos h1, if_neg (by omega)]
      exact hE
    · rw [if_neg h1]
      exact hE
  | succ j ih =>
    intro k i hi hk
    obtain ⟨k, rfl⟩ : ∃ m, k = m + 1 := ⟨k - 1, by omega⟩
    have hlen := mds_length s.data.toList i
    have his : i < s.size := by omega
    have hb := bt_range s i
    simp only [yardstickref03_Made.l0]
    rw [if_pos (by omega), if_pos (by omega), if_pos (by omega), if_pos (by simp [iz]; omega), wrap_small (i := bt s i) (by omega) (by omega), wrap_small (by omega) (by omega)]
    have e : iz (mds s.data.toList i) ++ [Int.tmod (bt s i) 10] = iz (mds s.data.toList (i + 1)) := by
      have h2 : i < s.data.toList.length := by rw [← Lib.size_eq]; exact his
      have hbt : bt s i = ((s.data.toList[i]'h2).toNat : Int) := by
        unfold bt
        rw [dif_pos (show (i : Int).toNat < s.size by simpa using his)]
        simp [ByteArray.getElem_eq_getElem_data]
      unfold mds
      rw [List.take_add_one, List.getElem?_eq_getElem h2, hbt]
      simp only [iz, Option.toList_some, List.map_append, List.map_cons, List.map_nil]
      congr 2
    rw [e]
    exact ih k (i + 1) (by omega) (by omega)

/-- 'Made': the text of the integer that a string determines. -/
theorem made_any (s : ByteArray) (most : Nat) (w : World) (hs : most ≤ 1000000) :
    Calls Tryz.prog 14 #[.string s, .int .i64 (most : Int)] w fun e w' => e = .returned (txt (Lib.itoa (madeZ s.data.toList most))) ∧ Below w.heap.size w w' := by
  refine yardstickref03_Made.calls (min most s.size + most + 5) s most ⟨(Lib.itoa (madeZ s.data.toList most)).toArray⟩ w ?_
  unfold yardstickref03_Made.f
  have h := made_pure s most hs (min most s.size) (min most s.size + most + 5) 0 (by omega) (by omega)
  have e : iz (mds s.data.toList 0) = [] := by simp [mds, iz]
  rw [e] at h
  exact h
end Go.Proofs.YtkihodadopcioaaGreatDoor
namespace Go.Proofs.YtkihodadopcioaaGreatDoor
open Go.RowKit Go.Shelf

set_option maxRecDepth 100000 in
set_option maxHeartbeats 4000000 in
theorem compare_sig (l m : List UInt8) (g1 g2 : Bool) (n k : Nat) (z : Int) (w : World) (gx : Num.gl n ≤ 50) (gy : Num.gl k ≤ 50)
    (HB : Calls Tryz.prog 68 #[txt l, txt m] w fun e w' => (∃ u v, e = .returned (.tuple #[u, v, .bool true]) ∧ IsSig w'.heap.size w' u g1 n ∧ IsSig w'.heap.size w' v g2 k) ∧ Below w.heap.size w w')
    (h11 : g1 = true → g2 = true → z = sgn (k : Int) (n : Int)) (h10 : g1 = true → g2 = false → z = -1) (h01 : g1 = false → g2 = true → z = 1) (h00 : g1 = false → g2 = false → z = sgn (n : Int) (k : Int)) :
    Calls Tryz.prog 20 #[txt l, txt m] w fun e w' => e = .returned (.int .i64 z) ∧ Below w.heap.size w w' := by
  have G11 := Lib.hid h11
  have G10 := Lib.hid h10
  have G01 := Lib.hid h01
  have G00 := Lib.hid h00
  clear h11 h10 h01 h00
  go_enter Tryz.func20, Tryz.ntmps20
  go_wp2_with fail
  refine HB.mono ?_
  rintro e w1 ⟨⟨u, v, rfl, ⟨uv, rfl, hu⟩, ⟨vv, rfl, hv⟩⟩, hb1⟩
  have hP := bpair_is w1 g1 g2 uv vv
  have hB1 := Lib.hid (hb1.trans (hP.below.mono hb1.size))
  have GC1 := Lib.hid (compare_any _ uv vv n k (by omega) (hu.later hP.below) (hv.later hP.below))
  have GC2 := Lib.hid (compare_any _ vv uv k n (by omega) (hv.later hP.below) (hu.later hP.below))
  obtain ⟨ua, uc, rfl, -, -⟩ := hu
  obtain ⟨va, vc, rfl, -, -⟩ := hv
  unfold bpair at hB1 GC1 GC2
  clear HB hP
  cases g1 <;> cases g2
  · go_wp2_with (go_at_call 72; refine GC1.out.mono ?_; rintro e w2 ⟨rfl, hb2⟩)
    refine bodyPost_ret (v := .int .i64 (sgn (n : Int) (k : Int))) ?_ rfl ⟨by rw [show z = sgn (n : Int) (k : Int) by simpa using G00.out], hB1.out.trans (hb2.mono hB1.out.size)⟩
    simp [results, Tryz.results20, go_sem]
  · go_wp2
    refine bodyPost_ret (v := .int .i64 1) ?_ rfl ⟨by rw [show z = 1 by simpa using G01.out], hB1.out⟩
    simp [results, Tryz.results20, go_sem]
  · go_wp2
    refine bodyPost_ret (v := .int .i64 (-1)) ?_ rfl ⟨by rw [show z = -1 by simpa using G10.out], hB1.out⟩
    simp [results, Tryz.results20, go_sem]
  · go_wp2_with (go_at_call 72; refine GC2.out.mono ?_; rintro e w2 ⟨rfl, hb2⟩)
    refine bodyPost_ret (v := .int .i64 (sgn (k : Int) (n : Int))) ?_ rfl ⟨by rw [show z = sgn (k : Int) (n : Int) by simpa using G11.out], hB1.out.trans (hb2.mono hB1.out.size)⟩
    simp [results, Tryz.results20, go_sem]

/-- 'Compare'. -/
theorem compare_ex (x y : Int) (w : World) (hx : x.natAbs < 10 ^ 200) (hy : y.natAbs < 10 ^ 200) :
    Calls Tryz.prog 20 #[txt (Lib.itoa x), txt (Lib.itoa y)] w fun e w' => e = .returned (.int .i64 (sgn x y)) ∧ Below w.heap.size w w' := by
  refine compare_sig _ _ (decide (x < 0)) (decide (y < 0)) x.natAbs y.natAbs (sgn x y) w (gl_200 hx) (gl_200 hy) (both_yes x y w hx hy) ?_ ?_ ?_ ?_
  all_goals
    intro h1 h2
    simp only [decide_eq_true_eq, decide_eq_false_iff_not] at h1 h2
    unfold sgn
    repeat' split
    all_goals omega

set_option maxRecDepth 100000 in
set_option maxHeartbeats 2000000 in
theorem compare_no (l m : List UInt8) (w : World) (hl : l.length ≤ 1000000) (hm : m.length ≤ 1000000) (hv : (Dec.vld l && Dec.vld m) = false) :
    Calls Tryz.prog 20 #[txt l, txt m] w fun e w' => e = .returned (.int .i64 0) ∧ Below w.heap.size w w' := by
  have HB := both_no l m w hl hm hv
  go_enter Tryz.func20, Tryz.ntmps20
  go_wp2_with fail
  refine HB.mono ?_
  rintro e w1 ⟨rfl, hb1⟩
  have hP := bpair_is w1 false false (.slice none 0 0) (.slice none 0 0)
  have hB := hb1.trans (hP.below.mono hb1.size)
  unfold bpair at hB
  clear hP HB
  go_wp2
  refine bodyPost_ret (v := .int .i64 0) ?_ rfl ⟨rfl, hB⟩
  simp [results, Tryz.results20, go_sem]
end Go.Proofs.YtkihodadopcioaaGreatDoor
namespace Go.Proofs.YtkihodadopcioaaGreatDoor
open Go.RowKit Go.Shelf

theorem gcd_step (a b : Nat) : Nat.gcd a b = Nat.gcd b (a % b) := by
  rw [Nat.gcd_comm a b, Nat.gcd_rec b a, Nat.gcd_comm]

set_option maxRecDepth 100000 in
set_option maxHeartbeats 4000000 in
theorem gcd_any (x y : Int) (w : World) (hx : x.natAbs < 10 ^ 200) (hy : y.natAbs < 10 ^ 200) (ht : Tab w) :
    Calls Tryz.prog 28 #[txt (Lib.itoa x), txt (Lib.itoa y)] w fun e w' => e = .returned (ires (Nat.gcd x.natAbs y.natAbs : Nat)) ∧ Below w.heap.size w w' := by
  have HB := both_yes x y w hx hy
  have HT := Lib.hid ht
  clear ht
  have gx := gl_200 hx
  have gy := gl_200 hy
  obtain ⟨rl, rk, hr⟩ := ires_form ((Nat.gcd x.natAbs y.natAbs : Nat) : Int)
  have HR := Lib.hid hr
  generalize decide (x < 0) = g1 at HB
  generalize decide (y < 0) = g2 at HB
  generalize Lib.itoa x = lx at HB ⊢
  generalize Lib.itoa y = ly at HB ⊢
  generalize hn : x.natAbs = n at HB gx hr HR ⊢
  generalize hm : y.natAbs = m at HB gy hr HR ⊢
  obtain ⟨G, hG⟩ : ∃ G, G = Nat.gcd n m := ⟨_, rfl⟩
  rw [← hG] at HR ⊢
  clear hx hy hr hn hm
  go_enter Tryz.func28, Tryz.ntmps28
  go_wp2_with fail
  refine HB.mono ?_
  rintro e w1 ⟨⟨u, v, rfl, ⟨uv, rfl, hu⟩, ⟨vv, rfl, hv⟩⟩, hb1⟩
  have hP := bpair_is w1 g1 g2 uv vv
  have hun := hu.later hP.below
  have hvn := hv.later hP.below
  have hB1 := hb1.trans (hP.below.mono hb1.size)
  obtain ⟨W, hW⟩ : ∃ W, W = bpair w1 g1 g2 uv vv := ⟨_, rfl⟩
  rw [← hW] at hP hun hvn hB1
  have p1 := hP.fst.cell1
  have q1 := hP.snd.cell1
  obtain ⟨ua, uc, rfl, -, -⟩ := hu
  obtain ⟨va, vc, rfl, -, -⟩ := hv
  unfold bpair at hW
  clear HB hP
  go_wp2_with fail
  rw [← hW]
  clear hW
  go_quiet (fail)
  go_wp2
  go_loopg [9, 10] m (fun kx s t wr => ∃ (a : Nat) (ra : Option Addr) (ca : Nat) (rb : Option Addr) (cb : Nat), s = .slice ra (Num.gl a) ca ∧ t = .slice rb (Num.gl kx) cb ∧ Below w.heap.size w wr ∧ Num.gl a ≤ 50 ∧ Num.gl kx ≤ 50 ∧
    Hid (IsNum wr.heap.size wr (.slice ra (Num.gl a) ca) a ∧ IsNum wr.heap.size wr (.slice rb (Num.gl kx) cb) kx ∧ Nat.gcd a kx = G))
  case atStart => exact ⟨n, ua, uc, va, vc, rfl, rfl, below_drewN hB1 _, gx, gy, Lib.hid ⟨hun, hvn, hG.symm⟩⟩
  case round =>
    obtain ⟨a, ra, ca, rb, cb, rfl, rfl, hbr, ga, gb, HI⟩ := hrel
    clear hun hvn hB1 p1 q1
    by_cases h0 : gk = 0
    · subst h0
      have hz : Num.gl 0 = 0 := Num.gl_zero
      have haG : a = G := by have := HI.out.2.2; simpa using this
      have GT := Lib.hid (text_any wr (.agg #[.bool false, .slice ra (Num.gl a) ca]) false a (by omega) (HT.out.later hbr) ⟨_, rfl, HI.out.1⟩)
      rw [show sig false a = ((G : Nat) : Int) by rw [haG]; rfl, HR.out] at GT
      clear haG
      go_wp2_with (go_at_call 70; refine GT.out.mono ?_; rintro e w2 ⟨rfl, hb2⟩)
      refine bodyPost_ret (v := .tuple #[txt rl, .int .i64 rk]) ?_ rfl ⟨by rw [HR.out], hbr.trans (hb2.mono hbr.size)⟩
      simp [results, Tryz.results28, go_sem]
    · have hpos : 0 < Num.gl gk := Num.gl_pos.2 h0
      have hr : a % gk < gk := Nat.mod_lt _ (by omega)
      have hgr : Num.gl (a % gk) ≤ 50 := Nat.le_trans (Num.gl_mono (Nat.le_of_lt hr)) gb
      have hg : Nat.gcd gk (a % gk) = G := by rw [← gcd_step]; exact HI.out.2.2
      have HG := Lib.hid hg
      have HO := Lib.hid (over_any wr (.slice ra (Num.gl a) ca) (.slice rb (Num.gl gk) cb) a gk (by omega) (by omega) (by omega) HI.out.1 HI.out.2.1)
      clear hg
      obtain ⟨r, hre⟩ : ∃ r, r = a % gk := ⟨_, rfl⟩
      rw [← hre] at hr hgr HG HO
      clear hre
      go_wp2_with (go_at_call 78; refine HO.out.mono ?_; rintro e w2 ⟨⟨qv, rv, rfl, -, hrn⟩, hb2⟩; have hrn' := Lib.hid hrn; obtain ⟨ra', rc', rfl, -, -⟩ := hrn)
      go_roundg r
      case measure => exact hr
      case rel => exact ⟨gk, rb, cb, ra', rc', rfl, rfl, hbr.trans (hb2.mono hbr.size), gb, hgr, Lib.hid ⟨HI.out.2.1.later hb2, hrn'.out, HG.out⟩⟩
end Go.Proofs.YtkihodadopcioaaGreatDoor
namespace Go.Proofs.YtkihodadopcioaaGreatDoor
open Go.RowKit Go.Shelf

set_option maxRecDepth 100000 in
set_option maxHeartbeats 4000000 in
theorem sane_walk (w : World) (ht : Tab w)
    (H1 : ∀ W, Tab W → Calls Tryz.prog 16 #[.string { data := #[57, 57, 57] }, .string { data := #[49] }] W fun e w' => e = .returned (.tuple #[.string { data := #[49, 48, 48, 48] }, .int .i64 0]) ∧ Below W.heap.size W w')
    (H2 : ∀ W, Tab W → Calls Tryz.prog 17 #[.string { data := #[49] }, .string { data := #[49, 48, 48, 48] }] W fun e w' => e = .returned (.tuple #[.string { data := #[45, 57, 57, 57] }, .int .i64 0]) ∧ Below W.heap.size W w')
    (H3 : ∀ W, Tab W → Calls Tryz.prog 19 #[.string { data := #[45, 49, 50] }, .string { data := #[49, 50] }] W fun e w' => e = .returned (.tuple #[.string { data := #[45, 49, 52, 52] }, .int .i64 0]) ∧ Below W.heap.size W w')
    (H4 : ∀ W, Tab W → Calls Tryz.prog 26 #[.string { data := #[45, 55] }, .string { data := #[50] }] W fun e w' => e = .returned (.tuple #[.string { data := #[45, 52] }, .string { data := #[49] }, .int .i64 0]) ∧ Below W.heap.size W w')
    (H5 : ∀ W, Tab W → Calls Tryz.prog 26 #[.string { data := #[45, 55] }, .string { data := #[45, 50] }] W fun e w' => e = .returned (.tuple #[.string { data := #[52] }, .string { data := #[49] }, .int .i64 0]) ∧ Below W.heap.size W w')
    (H6 : ∀ W, Tab W → Calls Tryz.prog 28 #[.string { data := #[49, 50] }, .string { data := #[45, 49, 56] }] W fun e w' => e = .returned (.tuple #[.string { data := #[54] }, .int .i64 0]) ∧ Below W.heap.size W w')
    (H7 : ∀ W, Tab W → Calls Tryz.prog 30 #[.string { data := #[57, 57] }] W fun e w' => e = .returned (.tuple #[.string { data := #[57] }, .int .i64 0]) ∧ Below W.heap.size W w')
    (H8 : ∀ W, Tab W → Calls Tryz.prog 30 #[.string { data := #[45, 49] }] W fun e w' => e = .returned (.tuple #[.string { data := #[] }, .int .i64 30]) ∧ Below W.heap.size W w')
    (H9 : ∀ W, Tab W → Calls Tryz.prog 16 #[.string { data := #[48, 48, 55] }, .string { data := #[49] }] W fun e w' => e = .returned (.tuple #[.string { data := #[] }, .int .i64 30]) ∧ Below W.heap.size W w')
    (H10 : ∀ W, Tab W → Calls Tryz.prog 21 #[.string { data := #[45, 55] }] W fun e w' => e = .returned (.bool true) ∧ Below W.heap.size W w')
    (H11 : ∀ W, Tab W → Calls Tryz.prog 21 #[.string { data := #[45, 48] }] W fun e w' => e = .returned (.bool false) ∧ Below W.heap.size W w')
    (H12 : ∀ W, Tab W → Calls Tryz.prog 21 #[.string { data := #[] }] W fun e w' => e = .returned (.bool false) ∧ Below W.heap.size W w')
    (H13 : ∀ W, Tab W → Calls Tryz.prog 20 #[.string { data := #[45, 56] }, .string { data := #[45, 55] }] W fun e w' => e = .returned (.int .i64 (-1)) ∧ Below W.heap.size W w') :
    Calls Tryz.prog 13 #[] w fun e w' => e = .returned (.bool true) ∧ Below w.heap.size w w' := by
  have HT := Lib.hid ht
  have hB := Lib.hid (Below.refl w.heap.size w)
  clear ht
  have G1 := fun W (hW : Tab W) => Lib.hid (H1 W hW)
  have G2 := fun W (hW : Tab W) => Lib.hid (H2 W hW)
  have G3 := fun W (hW : Tab W) => Lib.hid (H3 W hW)
  have G4 := fun W (hW : Tab W) => Lib.hid (H4 W hW)
  have G5 := fun W (hW : Tab W) => Lib.hid (H5 W hW)
  have G6 := fun W (hW : Tab W) => Lib.hid (H6 W hW)
  have G7 := fun W (hW : Tab W) => Lib.hid (H7 W hW)
  have G8 := fun W (hW : Tab W) => Lib.hid (H8 W hW)
  have G9 := fun W (hW : Tab W) => Lib.hid (H9 W hW)
  have G10 := fun W (hW : Tab W) => Lib.hid (H10 W hW)
  have G11 := fun W (hW : Tab W) => Lib.hid (H11 W hW)
  have G12 := fun W (hW : Tab W) => Lib.hid (H12 W hW)
  have G13 := fun W (hW : Tab W) => Lib.hid (H13 W hW)
  clear H1 H2 H3 H4 H5 H6 H7 H8 H9 H10 H11 H12 H13
  go_enter Tryz.func13, Tryz.ntmps13
  go_wp2_with fail
  refine (G1 _ HT.out).out.mono ?_
  rintro e w1 ⟨rfl, hb⟩
  replace HT := Lib.hid (HT.out.later hb)
  replace hB := Lib.hid (hB.out.trans (hb.mono hB.out.size))
  clear hb G1
  go_wp2_with fail
  refine (G2 _ HT.out).out.mono ?_
  rintro e w2 ⟨rfl, hb⟩
  replace HT := Lib.hid (HT.out.later hb)
  replace hB := Lib.hid (hB.out.trans (hb.mono hB.out.size))
  clear hb G2
  go_wp2_with fail
  refine (G3 _ HT.out).out.mono ?_
  rintro e w3 ⟨rfl, hb⟩
  replace HT := Lib.hid (HT.out.later hb)
  replace hB := Lib.hid (hB.out.trans (hb.mono hB.out.size))
  clear hb G3
  go_wp2_with fail
  refine (G4 _ HT.out).out.mono ?_
  rintro e w4 ⟨rfl, hb⟩
  replace HT := Lib.hid (HT.out.later hb)
  replace hB := Lib.hid (hB.out.trans (hb.mono hB.out.size))
  clear hb G4
  go_wp2_with fail
  refine (G5 _ HT.out).out.mono ?_
  rintro e w5 ⟨rfl, hb⟩
  replace HT := Lib.hid (HT.out.later hb)
  replace hB := Lib.hid (hB.out.trans (hb.mono hB.out.size))
  clear hb G5
  go_wp2_with fail
  refine (G6 _ HT.out).out.mono ?_
  rintro e w6 ⟨rfl, hb⟩
  replace HT := Lib.hid (HT.out.later hb)
  replace hB := Lib.hid (hB.out.trans (hb.mono hB.out.size))
  clear hb G6
  go_wp2_with fail
  refine (G7 _ HT.out).out.mono ?_
  rintro e w7 ⟨rfl, hb⟩
  replace HT := Lib.hid (HT.out.later hb)
  replace hB := Lib.hid (hB.out.trans (hb.mono hB.out.size))
  clear hb G7
  go_wp2_with fail
  refine (G8 _ HT.out).out.mono ?_
  rintro e w8 ⟨rfl, hb⟩
  replace HT := Lib.hid (HT.out.later hb)
  replace hB := Lib.hid (hB.out.trans (hb.mono hB.out.size))
  clear hb G8
  go_wp2_with fail
  refine (G9 _ HT.out).out.mono ?_
  rintro e w9 ⟨rfl, hb⟩
  replace HT := Lib.hid (HT.out.later hb)
  replace hB := Lib.hid (hB.out.trans (hb.mono hB.out.size))
  clear hb G9
  go_wp2_with fail
  refine (G10 _ HT.out).out.mono ?_
  rintro e w10 ⟨rfl, hb⟩
  replace HT := Lib.hid (HT.out.later hb)
  replace hB := Lib.hid (hB.out.trans (hb.mono hB.out.size))
  clear hb G10
  go_wp2_with fail
  refine (G11 _ HT.out).out.mono ?_
  rintro e w11 ⟨rfl, hb⟩
  replace HT := Lib.hid (HT.out.later hb)
  replace hB := Lib.hid (hB.out.trans (hb.mono hB.out.size))
  clear hb G11
  go_wp2_with fail
  refine (G12 _ HT.out).out.mono ?_
  rintro e w12 ⟨rfl, hb⟩
  replace HT := Lib.hid (HT.out.later hb)
  replace hB := Lib.hid (hB.out.trans (hb.mono hB.out.size))
  clear hb G12
  go_wp2_with fail
  refine (G13 _ HT.out).out.mono ?_
  rintro e w13 ⟨rfl, hb⟩
  replace HT := Lib.hid (HT.out.later hb)
  replace hB := Lib.hid (hB.out.trans (hb.mono hB.out.size))
  clear hb G13
  go_wp2
  go_ret
  exact ⟨rfl, hB.out⟩
end Go.Proofs.YtkihodadopcioaaGreatDoor
namespace Go.Proofs.YtkihodadopcioaaGreatDoor
open Go.RowKit Go.Shelf

theorem root_unique {n R S : Nat} (h1 : R * R ≤ n) (h2 : n < (R + 1) * (R + 1)) (h3 : S * S ≤ n) (h4 : n < (S + 1) * (S + 1)) : R = S := by
  have a : R < S + 1 := Nat.mul_self_lt_mul_self_iff.1 (Nat.lt_of_le_of_lt h1 h4)
  have b : S < R + 1 := Nat.mul_self_lt_mul_self_iff.1 (Nat.lt_of_le_of_lt h3 h2)
  omega
theorem add_is (x y z : Int) (l m r : List UInt8) (hx : x.natAbs < 10 ^ 200) (hy : y.natAbs < 10 ^ 200) (hz : z.natAbs < 10 ^ 200) (e : x + y = z) (e1 : Lib.itoa x = l) (e2 : Lib.itoa y = m) (e3 : Lib.itoa z = r) (W : World) (hW : Tab W) :
    Calls Tryz.prog 16 #[txt l, txt m] W fun e w' => e = .returned (.tuple #[txt r, .int .i64 0]) ∧ Below W.heap.size W w' := by
  subst e e1 e2 e3
  rw [← ires_yes hz]
  exact add_any x y W hx hy hW
theorem sub_is (x y z : Int) (l m r : List UInt8) (hx : x.natAbs < 10 ^ 200) (hy : y.natAbs < 10 ^ 200) (hz : z.natAbs < 10 ^ 200) (e : x - y = z) (e1 : Lib.itoa x = l) (e2 : Lib.itoa y = m) (e3 : Lib.itoa z = r) (W : World) (hW : Tab W) :
    Calls Tryz.prog 17 #[txt l, txt m] W fun e w' => e = .returned (.tuple #[txt r, .int .i64 0]) ∧ Below W.heap.size W w' := by
  subst e e1 e2 e3
  rw [← ires_yes hz]
  exact sub_any x y W hx hy hW
theorem mul_is (x y z : Int) (l m r : List UInt8) (hx : x.natAbs < 10 ^ 200) (hy : y.natAbs < 10 ^ 200) (hz : z.natAbs < 10 ^ 200) (e : x * y = z) (e1 : Lib.itoa x = l) (e2 : Lib.itoa y = m) (e3 : Lib.itoa z = r) (W : World) (hW : Tab W) :
    Calls Tryz.prog 19 #[txt l, txt m] W fun e w' => e = .returned (.tuple #[txt r, .int .i64 0]) ∧ Below W.heap.size W w' := by
  subst e e1 e2 e3
  rw [← ires_yes hz]
  exact mul_any x y W hx hy hW
theorem div_is (x y q p : Int) (l m r s : List UInt8) (hx : x.natAbs < 10 ^ 200) (hy : y.natAbs < 10 ^ 200) (h0 : y ≠ 0) (e : x / y = q) (e' : x % y = p) (e1 : Lib.itoa x = l) (e2 : Lib.itoa y = m) (e3 : Lib.itoa q = r) (e4 : Lib.itoa p = s) (W : World) (hW : Tab W) :
    Calls Tryz.prog 26 #[txt l, txt m] W fun e w' => e = .returned (.tuple #[txt r, txt s, .int .i64 0]) ∧ Below W.heap.size W w' := by
  subst e e' e1 e2 e3 e4
  exact div_any x y W hx hy h0 hW
theorem gcd_is (x y : Int) (g : Nat) (l m r : List UInt8) (hx : x.natAbs < 10 ^ 200) (hy : y.natAbs < 10 ^ 200) (hz : g < 10 ^ 200) (e : Nat.gcd x.natAbs y.natAbs = g) (e1 : Lib.itoa x = l) (e2 : Lib.itoa y = m) (e3 : Lib.itoa (g : Int) = r) (W : World) (hW : Tab W) :
    Calls Tryz.prog 28 #[txt l, txt m] W fun e w' => e = .returned (.tuple #[txt r, .int .i64 0]) ∧ Below W.heap.size W w' := by
  subst e e1 e2 e3
  rw [← ires_yes (by simpa using hz)]
  exact gcd_any x y W hx hy hW
theorem root_is (x : Int) (S : Nat) (l r : List UInt8) (h0 : 0 ≤ x) (hx : x.natAbs < 10 ^ 200) (hS : S < 10 ^ 200) (h3 : S * S ≤ x.natAbs) (h4 : x.natAbs < (S + 1) * (S + 1)) (e1 : Lib.itoa x = l) (e3 : Lib.itoa (S : Int) = r) (W : World) (hW : Tab W) :
    Calls Tryz.prog 30 #[txt l] W fun e w' => e = .returned (.tuple #[txt r, .int .i64 0]) ∧ Below W.heap.size W w' := by
  subst e1 e3
  refine (root_any x W h0 hx hW).mono ?_
  rintro e w' ⟨⟨R, rfl, h1, h2⟩, hb⟩
  refine ⟨?_, hb⟩
  rw [root_unique h1 h2 h3 h4, ires_yes (by simpa using hS)]
theorem cmp_is (x y z : Int) (l m : List UInt8) (hx : x.natAbs < 10 ^ 200) (hy : y.natAbs < 10 ^ 200) (e : sgn x y = z) (e1 : Lib.itoa x = l) (e2 : Lib.itoa y = m) (W : World) (_ : Tab W) :
    Calls Tryz.prog 20 #[txt l, txt m] W fun e w' => e = .returned (.int .i64 z) ∧ Below W.heap.size W w' := by
  subst e e1 e2
  exact compare_ex x y W hx hy
theorem valid_is (l : List UInt8) (b : Bool) (hl : l.length ≤ 1000000) (e : Dec.vld l = b) (W : World) (_ : Tab W) :
    Calls Tryz.prog 21 #[txt l] W fun e w' => e = .returned (.bool b) ∧ Below W.heap.size W w' := by
  subst e
  exact valid_ex ⟨l.toArray⟩ W (by rw [Lib.size_eq]; simp; omega)

theorem sane_any (w : World) (ht : Tab w) : Calls Tryz.prog 13 #[] w fun e w' => e = .returned (.bool true) ∧ Below w.heap.size w w' := by
  refine sane_walk w ht ?_ ?_ ?_ ?_ ?_ ?_ ?_ ?_ ?_ ?_ ?_ ?_ ?_
  · exact add_is 999 1 1000 [57, 57, 57] [49] [49, 48, 48, 48] (by decide +kernel) (by decide +kernel) (by decide +kernel) (by decide +kernel) (by decide +kernel) (by decide +kernel) (by decide +kernel)
  · exact sub_is 1 1000 (-999) [49] [49, 48, 48, 48] [45, 57, 57, 57] (by decide +kernel) (by decide +kernel) (by decide +kernel) (by decide +kernel) (by decide +kernel) (by decide +kernel) (by decide +kernel)
  · exact mul_is (-12) 12 (-144) [45, 49, 50] [49, 50] [45, 49, 52, 52] (by decide +kernel) (by decide +kernel) (by decide +kernel) (by decide +kernel) (by decide +kernel) (by decide +kernel) (by decide +kernel)
  · exact div_is (-7) 2 (-4) 1 [45, 55] [50] [45, 52] [49] (by decide +kernel) (by decide +kernel) (by decide +kernel) (by decide +kernel) (by decide +kernel) (by decide +kernel) (by decide +kernel) (by decide +kernel) (by decide +kernel)
  · exact div_is (-7) (-2) 4 1 [45, 55] [45, 50] [52] [49] (by decide +kernel) (by decide +kernel) (by decide +kernel) (by decide +kernel) (by decide +kernel) (by decide +kernel) (by decide +kernel) (by decide +kernel) (by decide +kernel)
  · exact gcd_is 12 (-18) 6 [49, 50] [45, 49, 56] [54] (by decide +kernel) (by decide +kernel) (by decide +kernel) (by decide +kernel) (by decide +kernel) (by decide +kernel) (by decide +kernel)
  · exact root_is 99 9 [57, 57] [57] (by decide +kernel) (by decide +kernel) (by decide +kernel) (by decide +kernel) (by decide +kernel) (by decide +kernel) (by decide +kernel)
  · intro W _
    have h := root_neg (-1) W (by decide) (by decide +kernel)
    rw [show Lib.itoa (-1) = [45, 49] by decide +kernel] at h
    exact h
  · intro W _
    exact add_no [48, 48, 55] [49] W (by decide) (by decide) (by decide +kernel)
  · exact valid_is [45, 55] true (by decide +kernel) (by decide +kernel)
  · exact valid_is [45, 48] false (by decide +kernel) (by decide +kernel)
  · exact valid_is [] false (by decide +kernel) (by decide +kernel)
  · exact cmp_is (-8) (-7) (-1) [45, 56] [45, 55] (by decide +kernel) (by decide +kernel) (by decide +kernel) (by decide +kernel) (by decide +kernel)
end Go.Proofs.YtkihodadopcioaaGreatDoor
namespace Go.Proofs.YtkihodadopcioaaGreatDoor
open Go.RowKit Go.Shelf

/-! ### For the laws -/
theorem made_is (s : ByteArray) (most : Nat) (hm : most ≤ 1000000) (l : List UInt8) (e : Lib.itoa (madeZ s.data.toList most) = l) (W : World) (_ : Tab W) :
    Calls Tryz.prog 14 #[.string s, .int .i64 (most : Int)] W fun e w' => e = .returned (txt l) ∧ Below W.heap.size W w' := by
  subst e
  exact made_any s most W hm

theorem abs_add {x y : Int} {A B C : Nat} (hx : x.natAbs < A) (hy : y.natAbs < B) (h : A + B ≤ C) : (x + y).natAbs < C := by omega
theorem abs_sub {x y : Int} {A B C : Nat} (hx : x.natAbs < A) (hy : y.natAbs < B) (h : A + B ≤ C) : (x - y).natAbs < C := by omega
theorem abs_mul {x y : Int} {A B C : Nat} (hx : x.natAbs < A) (hy : y.natAbs < B) (h : A * B ≤ C) : (x * y).natAbs < C := by
  rw [Int.natAbs_mul]
  refine Nat.lt_of_lt_of_le ?_ h
  rcases Nat.eq_zero_or_pos y.natAbs with h0 | h0
  · rw [h0, Nat.mul_zero]; exact Nat.mul_pos (by omega) (by omega)
  · exact Nat.lt_of_lt_of_le (Nat.mul_lt_mul_of_pos_right hx h0) (Nat.mul_le_mul_left A (Nat.le_of_lt hy))

theorem sgn_of_lt {x y : Int} (h : x < y) : sgn x y = -1 := by unfold sgn; rw [if_pos h]
theorem sgn_of_gt {x y : Int} (h : y < x) : sgn x y = 1 := by unfold sgn; rw [if_neg (by omega), if_pos h]
theorem sgn_self (x : Int) : sgn x x = 0 := by unfold sgn; rw [if_neg (by omega), if_neg (by omega)]
theorem sgn_le {x y : Int} (h : x ≤ y) : sgn x y ≤ 0 := by
  unfold sgn
  split
  · omega
  · rw [if_neg (by omega)]; omega
theorem sgn_ge {x y : Int} (h : y ≤ x) : 0 ≤ sgn x y := by
  unfold sgn
  rw [if_neg (by omega)]
  split <;> omega
theorem itoa_ne {x y : Int} (h : x ≠ y) : ¬ Lib.itoa x = Lib.itoa y := fun e => h (Dec.itoa_inj e)
theorem itoa_neb {x y : Int} (h : x ≠ y) : (Lib.itoa x == Lib.itoa y) = false := by rw [beq_eq_false_iff_ne]; exact itoa_ne h
theorem zero_txt : Lib.itoa 0 = [48] := by decide +kernel
theorem one_txt : Lib.itoa 1 = [49] := by decide +kernel
theorem abs0 : (0 : Int).natAbs < 10 ^ 200 := by decide +kernel
theorem abs1 : (1 : Int).natAbs < 10 ^ 200 := by decide +kernel

end Go.Proofs.YtkihodadopcioaaGreatDoor
