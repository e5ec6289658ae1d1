/- The reference's inputs: Made, trim and text, as numbers. -/
import Derived.Test.YtkihodadopcioaaGreatDoorPIntegerMatchesReferencex5
import Derived.Test.YtkihodadopcioaaGreatDoorText
namespace Go.Proofs.YtkihodadopcioaaGreatDoor
open Go.RowKit Go.Shelf PIntegerMatchesReference Go.Proofs.YtkihodadopcioaaGreatDoorW.PrintWords

/-- Digits as the printed functions hold them. -/
abbrev iz (l : List Nat) : List Int := l.map fun (d : Nat) => (d : Int)
def rtN (l : List Nat) : List Nat := (l.reverse.dropWhile (· == 0)).reverse
theorem rtN_nil : rtN [] = [] := rfl
theorem rtN_zero (m : List Nat) : rtN (m ++ [0]) = rtN m := by unfold rtN; simp
theorem rtN_last (m : List Nat) {d : Nat} (h : d ≠ 0) : rtN (m ++ [d]) = m ++ [d] := by unfold rtN; simp [h]
theorem wrap_small {i : Int} (h0 : -1000000000000 ≤ i) (h : i ≤ 1000000000000) : wrap64 i = i := by unfold wrap64; omega
theorem rd_iz (m r : List Nat) (d : Nat) : rd (iz (m ++ d :: r)) (m.length : Int) = (d : Int) := by
  unfold rd
  simp [iz, List.getD]

theorem trim_pure : ∀ (n : Nat) (ds : List Nat) (k : Nat), ds.length = n → n < k → n ≤ 1000000000 → yardstickref03_trim.l0 k (iz ds) = some (iz (rtN ds)) := by
  intro n
  induction n with
  | zero =>
    intro ds k hn hk _
    obtain ⟨k, rfl⟩ : ∃ m, k = m + 1 := ⟨k - 1, by omega⟩
    rw [List.eq_nil_of_length_eq_zero hn]
    simp [yardstickref03_trim.l0, rtN]
  | succ n ih =>
    intro ds k hn hk hb
    obtain ⟨k, rfl⟩ : ∃ m, k = m + 1 := ⟨k - 1, by omega⟩
    obtain ⟨m, d, rfl⟩ : ∃ m d, ds = m ++ [d] := ⟨ds.dropLast, ds.getLast (by intro e; rw [e] at hn; simp at hn), (List.dropLast_concat_getLast _).symm⟩
    have hm : m.length = n := by simpa using hn
    have hlen : ((iz (m ++ [d])).length : Int) = (n : Int) + 1 := by simp [iz, hm]
    have hw : wrap64 (((iz (m ++ [d])).length : Int) - 1) = (m.length : Int) := by rw [hlen, hm, wrap_small (by omega) (by omega)]; omega
    simp only [yardstickref03_trim.l0]
    rw [hw, rd_iz m [] d, if_pos (by omega), if_pos (by omega), if_pos (by omega)]
    by_cases hd : d = 0
    · subst hd
      rw [if_pos (show ((0 : Nat) : Int) = 0 from rfl), if_pos (by omega), rtN_zero]
      have e : (iz (m ++ [0])).take (m.length : Int).toNat = iz m := by simp [iz]
      rw [e]
      exact ih m k hm (by omega) (by omega)
    · rw [if_neg (by omega), rtN_last m hd]

/-- Digits, the highest one first, as numbers of bytes. -/
def nums (l : List Nat) : List Int := l.reverse.map fun (d : Nat) => (48 + d : Int)
theorem text_pure (ds : List Nat) (hd : ∀ d ∈ ds, d < 10) (hb : ds.length ≤ 1000000000) : ∀ (j k : Nat) (acc : List Int), j ≤ ds.length → j < k → acc.length + j ≤ 2000000000 →
    yardstickref03_text.l0 k (iz ds) acc ((j : Int) - 1) = some (strOfNums (acc ++ nums (ds.take j)), decide ((ds.length : Int) ≤ 200)) := by
  intro j
  induction j with
  | zero =>
    intro k acc _ hk _
    obtain ⟨k, rfl⟩ : ∃ m, k = m + 1 := ⟨k - 1, by omega⟩
    simp [yardstickref03_text.l0, nums, iz]
  | succ j ih =>
    intro k acc hj hk hacc
    obtain ⟨k, rfl⟩ : ∃ m, k = m + 1 := ⟨k - 1, by omega⟩
    obtain ⟨m, d, r, rfl, hm⟩ : ∃ m d r, ds = m ++ d :: r ∧ m.length = j := by
      refine ⟨ds.take j, ds[j]'(by omega), ds.drop (j + 1), ?_, by rw [List.length_take]; omega⟩
      rw [List.getElem_cons_drop, List.take_append_drop]
    have hdd := hd d (by simp)
    have hi : ((j + 1 : Nat) : Int) - 1 = (m.length : Int) := by omega
    have hlen : ((iz (m ++ d :: r)).length : Int) = ((m ++ d :: r).length : Int) := by simp [iz]
    have hj' : (m.length : Int) < ((m ++ d :: r).length : Int) := by simp; omega
    simp only [yardstickref03_text.l0]
    rw [hi, rd_iz m r d, if_pos (by omega), if_pos (by omega), hlen, if_pos hj', if_pos (by omega), wrap_small (by omega) (by omega), wrap_small (by omega) (by omega)]
    rw [show ((48 : Int) + (d : Int)) % 256 = 48 + (d : Int) by omega, hm]
    rw [ih k (acc ++ [48 + (d : Int)]) (by omega) (by omega) (by simp; omega)]
    congr 2
    rw [List.append_assoc]
    congr 2
    unfold nums
    rw [show j = m.length from hm.symm, List.take_append_of_le_length (Nat.le_refl _), List.take_length]
    rw [show m.length + 1 = (m ++ [d]).length by simp, show m ++ d :: r = (m ++ [d]) ++ r by simp, List.take_left']
    · simp
    · rfl

/-! ### The text of digits -/
def val10 : List Nat → Nat
  | [] => 0
  | d :: r => d + 10 * val10 r
theorem val10_snoc_zero (m : List Nat) : val10 (m ++ [0]) = val10 m := by
  induction m with
  | nil => rfl
  | cons d m ih => simp [val10, ih]
theorem rtN_facts : ∀ (n : Nat) (ds : List Nat), ds.length = n → val10 (rtN ds) = val10 ds ∧ (∀ d ∈ rtN ds, d ∈ ds) ∧ (rtN ds).length ≤ ds.length ∧ (∀ d, (rtN ds).getLast? = some d → d ≠ 0) := by
  intro n
  induction n with
  | zero =>
    intro ds hn
    rw [List.eq_nil_of_length_eq_zero hn]
    exact ⟨rfl, fun d h => h, Nat.le_refl _, fun d h => by simp [rtN] at h⟩
  | succ n ih =>
    intro ds hn
    obtain ⟨m, d, rfl⟩ : ∃ m d, ds = m ++ [d] := ⟨ds.dropLast, ds.getLast (by intro e; rw [e] at hn; simp at hn), (List.dropLast_concat_getLast _).symm⟩
    by_cases hd : d = 0
    · subst hd
      obtain ⟨h1, h2, h3, h4⟩ := ih m (by simpa using hn)
      rw [rtN_zero]
      exact ⟨by rw [h1, val10_snoc_zero], fun x hx => by simp [h2 x hx], by simp; omega, h4⟩
    · rw [rtN_last m hd]
      exact ⟨rfl, fun x hx => hx, Nat.le_refl _, fun x hx => by simp at hx; omega⟩
def byts (l : List Nat) : List UInt8 := l.reverse.map fun d => UInt8.ofNat (48 + d)
theorem byts_dval (l : List Nat) (h : ∀ d ∈ l, d < 10) : Dec.dval (byts l) = val10 l ∧ Dec.Digits (byts l) := by
  induction l with
  | nil => exact ⟨rfl, by intro b hb; simp [byts] at hb⟩
  | cons d l ih =>
    obtain ⟨h1, h2⟩ := ih (fun x hx => h x (List.mem_cons_of_mem _ hx))
    have hd := h d List.mem_cons_self
    have e : byts (d :: l) = byts l ++ [UInt8.ofNat (48 + d)] := by simp [byts]
    rw [e]
    constructor
    · rw [Dec.dval_snoc, h1, Dec.digit_toNat hd]
      show _ = d + 10 * val10 l
      omega
    · intro b hb
      rw [List.mem_append] at hb
      rcases hb with hb | hb
      · exact h2 b hb
      · simp only [List.mem_singleton] at hb
        subst hb
        unfold Dec.IsDigit
        rw [Dec.digit_toNat hd]; omega
theorem byts_dec {l : List Nat} (h : ∀ d ∈ l, d < 10) (hne : l ≠ []) (hl : ∀ d, l.getLast? = some d → d ≠ 0) : byts l = Lib.decDigits (val10 l) := by
  obtain ⟨h1, h2⟩ := byts_dval l h
  rw [← h1]
  refine (Dec.decDigits_dval h2 (by simp [byts, hne]) (.inr ?_)).symm
  obtain ⟨m, d, rfl⟩ : ∃ m d, l = m ++ [d] := ⟨l.dropLast, l.getLast hne, (List.dropLast_concat_getLast _).symm⟩
  have hd := hl d (by simp)
  have hd10 := h d (by simp)
  simp only [byts, List.reverse_append, List.reverse_singleton, List.singleton_append, List.map_cons, List.head?_cons, ne_eq, Option.some.injEq]
  intro e
  have := congrArg UInt8.toNat e
  rw [Dec.digit_toNat hd10] at this
  simp at this
  omega
theorem val10_ne {l : List Nat} (hne : l ≠ []) (hl : ∀ d, l.getLast? = some d → d ≠ 0) : val10 l ≠ 0 := by
  induction l with
  | nil => exact absurd rfl hne
  | cons d r ih =>
    cases r with
    | nil => have := hl d rfl; simpa [val10] using this
    | cons e r =>
      have := ih (by simp) (fun x hx => hl x (by simpa using hx))
      show d + 10 * _ ≠ 0
      omega
theorem val10_lt {l : List Nat} (h : ∀ d ∈ l, d < 10) : val10 l < 10 ^ l.length := by
  induction l with
  | nil => simp [val10]
  | cons d r ih =>
    have h1 := ih (fun x hx => h x (List.mem_cons_of_mem _ hx))
    have h2 := h d List.mem_cons_self
    rw [List.length_cons, Nat.pow_succ]
    show d + 10 * val10 r < _
    omega

theorem strOfNums_nums (acc : List UInt8) (l : List Nat) (h : ∀ d ∈ l, d < 10) : strOfNums ((acc.map fun b => (b.toNat : Int)) ++ nums l) = ⟨(acc ++ byts l).toArray⟩ := by
  unfold strOfNums
  congr 2
  rw [List.map_append, List.map_map]
  congr 1
  · conv => rhs; rw [← List.map_id acc]
    apply List.map_congr_left
    intro b _
    simp
  · unfold nums byts
    rw [List.map_map]
    apply List.map_congr_left
    intro d hd
    have := h d (by simpa using hd)
    simp only [Function.comp]
    congr 1

/-- The reference's text of digits without zeros ahead. -/
theorem text_is (g : Bool) (ds : List Nat) (k : Nat) (hd : ∀ d ∈ ds, d < 10) (hl : ∀ d, ds.getLast? = some d → d ≠ 0) (hb : ds.length ≤ 1000000000) (hk : ds.length + 1 < k) :
    yardstickref03_text.f k g (iz ds) = some (⟨(Lib.itoa (sig g (val10 ds))).toArray⟩, decide ((ds.length : Int) ≤ 200)) := by
  by_cases hne : ds = []
  · subst hne
    have : Lib.itoa (sig g (val10 [])) = [48] := by rw [show val10 [] = 0 from rfl, sig_zero]; decide +kernel
    rw [this]
    simp [yardstickref03_text.f]
  · have hpos : 0 < ds.length := List.length_pos_iff.2 hne
    have hn := val10_ne hne hl
    have hbd := byts_dec hd hne hl
    obtain ⟨k, rfl⟩ : ∃ m, k = m + 1 := ⟨k - 1, by omega⟩
    have hlen : ((iz ds).length : Int) = (ds.length : Int) := by simp [iz]
    unfold yardstickref03_text.f
    rw [hlen, if_neg (by omega)]
    have h1 := text_pure ds hd hb ds.length k
    rw [List.take_length] at h1
    cases g with
    | true =>
      rw [if_pos rfl, if_pos (by simp)]
      simp only [yardstickref03_text.j0]
      rw [hlen, wrap_small (by omega) (by omega), h1 _ (Nat.le_refl _) (by omega) (by simp; omega)]
      have h2 := strOfNums_nums [45] ds hd
      rw [Dec.itoa_neg (by show -((val10 ds : Nat) : Int) < 0; omega), sig_abs, ← hbd]
      simp only [List.map_cons, List.map_nil, List.singleton_append, List.nil_append] at h2 ⊢
      rw [← h2]
      rfl
    | false =>
      rw [if_neg (by simp)]
      simp only [yardstickref03_text.j0]
      rw [hlen, wrap_small (by omega) (by omega), h1 _ (Nat.le_refl _) (by omega) (by simp; omega)]
      have h2 := strOfNums_nums [] ds hd
      rw [Dec.itoa_nonneg (by show (0 : Int) ≤ ((val10 ds : Nat) : Int); omega), sig_abs, ← hbd]
      simp only [List.map_nil, List.nil_append] at h2 ⊢
      rw [← h2]

/-! ### Made -/
def mds (l : List UInt8) (most : Nat) : List Nat := (l.take most).map fun b => b.toNat % 10
def mneg (l : List UInt8) : Bool := match l with
  | [] => false
  | b :: _ => decide (128 ≤ b.toNat)
/-- The integer that a string determines. -/
def madeZ (l : List UInt8) (most : Nat) : Int := sig (mneg l) (val10 (mds l most))
theorem mds_lt (l : List UInt8) (most : Nat) : ∀ d ∈ mds l most, d < 10 := by
  intro d hd
  obtain ⟨b, _, rfl⟩ := List.mem_map.1 hd
  omega
theorem mds_length (l : List UInt8) (most : Nat) : (mds l most).length = min most l.length := by unfold mds; rw [List.length_map, List.length_take]
theorem madeZ_lt (l : List UInt8) (most : Nat) : (madeZ l most).natAbs < 10 ^ most := by
  unfold madeZ
  rw [sig_abs]
  refine Nat.lt_of_lt_of_le (val10_lt (mds_lt l most)) (Nat.pow_le_pow_right (by omega) ?_)
  rw [mds_length]; omega

theorem mneg_bt (s : ByteArray) (h : 0 < s.size) : decide (bt s 0 ≥ 128) = mneg s.data.toList := by
  obtain ⟨b, r, hl⟩ : ∃ b r, s.data.toList = b :: r := List.exists_cons_of_ne_nil (by intro e; rw [Lib.size_eq, e] at h; simp at h)
  have h0 : bt s 0 = (b.toNat : Int) := by
    unfold bt
    rw [dif_pos (show (0 : Int).toNat < s.size from h)]
    have : s[(0 : Int).toNat]'h = s.data.toList[0]'(by rw [hl]; simp) := by simp [ByteArray.getElem_eq_getElem_data]
    rw [this]
    simp [hl]
  rw [h0, hl]
  unfold mneg
  simp
  omega

/-- What follows the loop. -/
def madeEnd (k : Nat) (s : ByteArray) (x5 : List Int) : Option ByteArray := if (s.size : Int) > 0 then (if 0 < (s.size : Int) then ((yardstickref03_trim.f k x5).bind fun t => ((yardstickref03_text.f k (decide ((bt s 0) ≥ 128)) t).bind fun b => (some b.1))) else (none)) else ((yardstickref03_trim.f k x5).bind fun t => ((yardstickref03_text.f k false t).bind fun b => (some b.1)))
theorem madeEnd_is (s : ByteArray) (most k : Nat) (hs : most ≤ 1000000) (hk : most + 2 < k) : madeEnd k s (iz (mds s.data.toList most)) = some ⟨(Lib.itoa (madeZ s.data.toList most)).toArray⟩ := by
  have hlen := mds_length s.data.toList most
  rw [← Lib.size_eq] at hlen
  have hlt : (mds s.data.toList most).length ≤ most := by omega
  obtain ⟨h1, h2, h3, h4⟩ := rtN_facts _ (mds s.data.toList most) rfl
  have e1 := trim_pure _ (mds s.data.toList most) k rfl (by omega) (by omega)
  have e2 := fun g => text_is g (rtN (mds s.data.toList most)) k (fun d hd => mds_lt _ _ d (h2 d hd)) h4 (by omega) (by omega)
  rw [h1] at e2
  unfold madeEnd yardstickref03_trim.f
  rw [e1]
  simp only [Option.bind_some]
  by_cases h0 : (s.size : Int) > 0
  · rw [if_pos h0, if_pos h0, mneg_bt s (by omega), e2]
    rfl
  · rw [if_neg h0, e2]
    have hl : s.data.toList = [] := by
      rw [Lib.size_eq] at h0
      exact List.eq_nil_of_length_eq_zero (by omega)
    rw [hl]
    rfl
theorem made_pure (s : ByteArray) (most : Nat) (hs : most ≤ 1000000) : ∀ (j k i : Nat), i + j = min most s.size → j + most + 3 < k → yardstickref03_Made.l0 k s (most : Int) (iz (mds s.data.toList i)) (i : Int) = some ⟨(Lib.itoa (madeZ s.data.toList most)).toArray⟩ := by
  intro j
  induction j with
  | zero =>
    intro k i hi hk
    obtain ⟨k, rfl⟩ : ∃ m, k = m + 1 := ⟨k - 1, by omega⟩
    have he : mds s.data.toList i = mds s.data.toList most := by
      unfold mds
      congr 1
      rw [Lib.size_eq] at hi
      rcases Nat.le_total most s.data.toList.length with h | h
      · rw [show i = most by omega]
      · rw [List.take_of_length_le h, List.take_of_length_le (by omega)]
    have hE := madeEnd_is s most k hs (by omega)
    rw [he]
    unfold madeEnd at hE
    simp only [yardstickref03_Made.l0]
    by_cases h1 : (i : Int) < (s.size : Int)
    · rw [if_pos h1, if_neg (by omega)]
      exact hE
    · rw [if_neg h1]
      exact hE
  | succ j ih =>
    intro k i hi hk
    obtain ⟨k, rfl⟩ : ∃ m, k = m + 1 := ⟨k - 1, by omega⟩
    have hlen := mds_length s.data.toList i
    have his : i < s.size := by omega
    have hb := bt_range s i
    simp only [yardstickref03_Made.l0]
    rw [if_pos (by omega), if_pos (by omega), if_pos (by omega), if_pos (by simp [iz]; omega), wrap_small (i := bt s i) (by omega) (by omega), wrap_small (by omega) (by omega)]
    have e : iz (mds s.data.toList i) ++ [Int.tmod (bt s i) 10] = iz (mds s.data.toList (i + 1)) := by
      have h2 : i < s.data.toList.length := by rw [← Lib.size_eq]; exact his
      have hbt : bt s i = ((s.data.toList[i]'h2).toNat : Int) := by
        unfold bt
        rw [dif_pos (show (i : Int).toNat < s.size by simpa using his)]
        simp [ByteArray.getElem_eq_getElem_data]
      unfold mds
      rw [List.take_add_one, List.getElem?_eq_getElem h2, hbt]
      simp only [iz, Option.toList_some, List.map_append, List.map_cons, List.map_nil]
      congr 2
    rw [e]
    exact ih k (i + 1) (by omega) (by omega)

/-- 'Made': the text of the integer that a string determines. -/
theorem made_any (s : ByteArray) (most : Nat) (w : World) (hs : most ≤ 1000000) :
    Calls Tryz.prog 14 #[.string s, .int .i64 (most : Int)] w fun e w' => e = .returned (txt (Lib.itoa (madeZ s.data.toList most))) ∧ Below w.heap.size w w' := by
  refine yardstickref03_Made.calls (min most s.size + most + 5) s most ⟨(Lib.itoa (madeZ s.data.toList most)).toArray⟩ w ?_
  unfold yardstickref03_Made.f
  have h := made_pure s most hs (min most s.size) (min most s.size + most + 5) 0 (by omega) (by omega)
  have e : iz (mds s.data.toList 0) = [] := by simp [mds, iz]
  rw [e] at h
  exact h
end Go.Proofs.YtkihodadopcioaaGreatDoor
