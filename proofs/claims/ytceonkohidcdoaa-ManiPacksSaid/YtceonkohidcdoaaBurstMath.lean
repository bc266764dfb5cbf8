import Derived.Test.YtceonkohidcdoaaCrcMath
namespace Wells
def bitOf (b : Bool) : BitVec 8 := if b then 1#8 else 0#8
def byte8 (a b c d e f g h : Bool) : BitVec 8 := bitOf a ||| bitOf b <<< 1 ||| bitOf c <<< 2 ||| bitOf d <<< 3 ||| bitOf e <<< 4 ||| bitOf f <<< 5 ||| bitOf g <<< 6 ||| bitOf h <<< 7
def byteOf (f : Nat → Bool) : BitVec 8 := byte8 (f 0) (f 1) (f 2) (f 3) (f 4) (f 5) (f 6) (f 7)
theorem byteOf_get (f : Nat → Bool) (r : Nat) (hr : r < 8) : (byteOf f).getLsbD r = f r := by
  unfold byteOf byte8
  have h : ∀ b : Bool, ∀ i : Nat, (bitOf b).getLsbD i = (b && decide (i = 0)) := by
    intro b i
    cases b
    · simp [bitOf]
    · cases i <;> simp [bitOf]
  simp only [BitVec.getLsbD_or, BitVec.getLsbD_shiftLeft, h]
  obtain rfl | rfl | rfl | rfl | rfl | rfl | rfl | rfl : r = 0 ∨ r = 1 ∨ r = 2 ∨ r = 3 ∨ r = 4 ∨ r = 5 ∨ r = 6 ∨ r = 7 := by omega
  all_goals simp
/-- byte j of an error: bits from 'bit' on, the first n of a mask -/
def errB (bit : Nat) (mask : BitVec 32) (n j : Nat) : BitVec 8 :=
  byteOf fun r => decide (bit ≤ 8 * j + r ∧ 8 * j + r < bit + n) && mask.getLsbD (8 * j + r - bit)
def errL (len bit : Nat) (mask : BitVec 32) (n : Nat) : List (BitVec 8) := (List.range len).map (errB bit mask n)
theorem errB_get (bit : Nat) (mask : BitVec 32) (n j r : Nat) (hr : r < 8) :
    (errB bit mask n j).getLsbD r = (decide (bit ≤ 8 * j + r ∧ 8 * j + r < bit + n) && mask.getLsbD (8 * j + r - bit)) := by
  unfold errB
  rw [byteOf_get _ _ hr]
def errBit (bit : Nat) (mask : BitVec 32) (n k : Nat) : Bool := decide (bit ≤ k ∧ k < bit + n) && mask.getLsbD (k - bit)
theorem bits8_errB (bit : Nat) (mask : BitVec 32) (n j : Nat) : bits8 (errB bit mask n j) = (List.range 8).map fun r => errBit bit mask n (8 * j + r) := by
  unfold bits8
  apply List.map_congr_left
  intro r hr
  exact errB_get bit mask n j r (by simpa using hr)
theorem allBits_append (a b : List (BitVec 8)) : allBits (a ++ b) = allBits a ++ allBits b := by simp [allBits]
theorem allBits_errL (bit : Nat) (mask : BitVec 32) (n : Nat) : ∀ len, allBits (errL len bit mask n) = (List.range (8 * len)).map (errBit bit mask n) := by
  intro len
  induction len with
  | zero => rfl
  | succ len ih =>
    have h1 : errL (len + 1) bit mask n = errL len bit mask n ++ [errB bit mask n len] := by simp [errL, List.range_succ]
    rw [h1, allBits_append, ih]
    have h2 : allBits [errB bit mask n len] = (List.range 8).map fun r => errBit bit mask n (8 * len + r) := by
      rw [← bits8_errB]; simp [allBits]
    rw [h2, show 8 * (len + 1) = 8 * len + 8 by omega, List.range_add, List.map_append, List.map_map]
    rfl
theorem map_errBit (bit len : Nat) (mask : BitVec 32) (hb : bit ≤ 8 * len) :
    (List.range (8 * len)).map (errBit bit mask 32) =
      List.replicate bit false ++ (List.range (min 32 (8 * len - bit))).map (fun i => mask.getLsbD i) ++ List.replicate (8 * len - bit - 32) false := by
  apply List.ext_getElem?
  intro k
  by_cases h1 : k < bit
  · rw [List.append_assoc, List.getElem?_append_left (by simpa using h1)]
    rw [List.getElem?_map, List.getElem?_range (by omega), List.getElem?_replicate]
    simp [errBit, h1]
    omega
  · by_cases h2 : k < 8 * len
    · rw [List.append_assoc, List.getElem?_append_right (by simp; omega)]
      rw [List.getElem?_map, List.getElem?_range h2]
      simp only [List.length_replicate, Option.map_some]
      by_cases h3 : k < bit + 32
      · rw [List.getElem?_append_left (by simp; omega), List.getElem?_map, List.getElem?_range (by omega)]
        simp [errBit]
        intro _
        constructor <;> omega
      · rw [List.getElem?_append_right (by simp; omega), List.getElem?_replicate]
        simp [errBit]
        constructor
        · omega
        · intro hh; omega
    · rw [List.getElem?_eq_none (by simp; omega), List.getElem?_eq_none (by simp; omega)]
/-- how many bits are turned by the first n of a mask -/
def turnN (len bit : Nat) (mask : BitVec 32) : Nat → Nat
  | 0 => 0
  | n + 1 => turnN len bit mask n + if mask.getLsbD n = true ∧ bit + n < 8 * len then 1 else 0
theorem turnN_zero (len bit : Nat) (mask : BitVec 32) : ∀ n, turnN len bit mask n = 0 ↔ ∀ i, i < n → bit + i < 8 * len → mask.getLsbD i = false := by
  intro n
  induction n with
  | zero => simp [turnN]
  | succ n ih =>
    unfold turnN
    constructor
    · intro h i hi hl
      have h1 : turnN len bit mask n = 0 := by omega
      by_cases hin : i = n
      · subst hin
        by_cases hm : mask.getLsbD i = true
        · rw [if_pos ⟨hm, hl⟩] at h; omega
        · simpa using hm
      · exact ih.1 h1 i (by omega) hl
    · intro h
      rw [ih.2 (fun i hi hl => h i (by omega) hl)]
      by_cases hl : bit + n < 8 * len
      · rw [h n (by omega) hl]; simp
      · rw [if_neg (by simp; omega)]
theorem turnN_le (len bit : Nat) (mask : BitVec 32) : ∀ n, turnN len bit mask n ≤ n := by
  intro n
  induction n with
  | zero => simp [turnN]
  | succ n ih => unfold turnN; split <;> omega
theorem crcS_err (len bit : Nat) (mask : BitVec 32) (hb : bit ≤ 8 * len) : crcS 0#32 (errL len bit mask 32) = 0#32 ↔ turnN len bit mask 32 = 0 := by
  rw [crcS_fd, allBits_errL, map_errBit bit len mask hb, burst_zero _ _ _ (by simp; omega), turnN_zero]
  constructor
  · intro h i hi hl
    have := h i
    rw [List.getD_eq_getElem?_getD, List.getElem?_map, List.getElem?_range (by omega)] at this
    simpa using this
  · intro h i
    rw [List.getD_eq_getElem?_getD, List.getElem?_map]
    by_cases hi : i < min 32 (8 * len - bit)
    · rw [List.getElem?_range hi]; simpa using h i (by omega) (by omega)
    · rw [List.getElem?_eq_none (by simpa using hi)]; rfl
theorem xr_length (a b : List (BitVec 8)) : (xr a b).length = min a.length b.length := by simp [xr]
theorem errL_length (len bit : Nat) (mask : BitVec 32) (n : Nat) : (errL len bit mask n).length = len := by simp [errL]
theorem errB_step (bit : Nat) (mask : BitVec 32) (k j : Nat) :
    errB bit mask (k + 1) j = if mask.getLsbD k = true ∧ (bit + k) / 8 = j then errB bit mask k j ^^^ (1#8 <<< ((bit + k) % 8)) else errB bit mask k j := by
  apply BitVec.eq_of_getLsbD_eq
  intro r hr
  have hs : ∀ s : Nat, (1#8 <<< s).getLsbD r = decide (r = s) := by
    intro s
    rw [BitVec.getLsbD_shiftLeft]
    by_cases h : r < s
    · have : ¬ r = s := by omega
      simp [h, this]
    · by_cases h2 : r = s
      · subst h2; simp [hr]
      · have : r - s ≠ 0 := by omega
        simp [h2, this]
  rw [errB_get _ _ _ _ _ hr]
  by_cases hm : mask.getLsbD k = true ∧ (bit + k) / 8 = j
  · rw [if_pos hm, BitVec.getLsbD_xor, errB_get _ _ _ _ _ hr, hs]
    obtain ⟨h1, h2⟩ := hm
    by_cases he : 8 * j + r = bit + k
    · have h3 : r = (bit + k) % 8 := by omega
      have h4 : 8 * j + r - bit = k := by omega
      have h5 : ¬ (bit ≤ 8 * j + r ∧ 8 * j + r < bit + k) := by omega
      have h6 : bit ≤ 8 * j + r ∧ 8 * j + r < bit + (k + 1) := by omega
      rw [decide_eq_false h5, decide_eq_true h6, h4, h1, decide_eq_true h3]
      rfl
    · have h3 : ¬ r = (bit + k) % 8 := by omega
      rw [decide_eq_false h3, Bool.xor_false]
      congr 1
      apply decide_eq_decide.2
      omega
  · rw [if_neg hm, errB_get _ _ _ _ _ hr]
    by_cases he : 8 * j + r = bit + k
    · have h4 : 8 * j + r - bit = k := by omega
      have h1 : mask.getLsbD k = false := by
        by_cases hk : mask.getLsbD k = true
        · exact absurd ⟨hk, by omega⟩ hm
        · simpa using hk
      rw [h4, h1]
      simp
    · congr 1
      apply decide_eq_decide.2
      omega
theorem xr_errL_stay (l : List (BitVec 8)) (n bit : Nat) (mask : BitVec 32) (k : Nat) (h : ¬ (mask.getLsbD k = true ∧ bit + k < 8 * n)) : xr l (errL n bit mask (k + 1)) = xr l (errL n bit mask k) := by
  congr 1
  unfold errL
  apply List.map_congr_left
  intro j hj
  rw [errB_step, if_neg]
  simp at hj
  rintro ⟨h1, h2⟩
  exact h ⟨h1, by omega⟩
theorem xr_errL_turn (l : List (BitVec 8)) (n bit : Nat) (mask : BitVec 32) (k : Nat) (hl : l.length = n) (h : mask.getLsbD k = true) (hk : bit + k < 8 * n) :
    xr l (errL n bit mask (k + 1)) = (xr l (errL n bit mask k)).set ((bit + k) / 8) ((xr l (errL n bit mask k)).getD ((bit + k) / 8) 0 ^^^ (1#8 <<< ((bit + k) % 8))) := by
  apply List.ext_getElem?
  intro j
  have hj8 : (bit + k) / 8 < n := by omega
  by_cases hj : j < n
  · have e1 : ∀ q, (xr l (errL n bit mask q))[j]? = some (l[j]'(by omega) ^^^ errB bit mask q j) := by
      intro q
      simp [xr, errL, List.getElem?_zipWith, hj, hl]
    rw [e1, errB_step, List.getElem?_set]
    by_cases he : (bit + k) / 8 = j
    · subst he
      rw [if_pos ⟨h, rfl⟩, if_pos rfl, if_pos (by rw [xr_length, errL_length]; omega), List.getD_eq_getElem?_getD, e1]
      simp [BitVec.xor_assoc]
    · rw [if_neg (by omega), if_neg he, e1]
  · rw [List.getElem?_eq_none (by rw [xr_length, errL_length]; omega), List.getElem?_eq_none (by rw [List.length_set, xr_length, errL_length]; omega)]
/-- of bytes with their sum behind them -/
theorem crc_burst (b : List (BitVec 8)) (bit : Nat) (mask : BitVec 32) (b' : List (BitVec 8)) (c' : BitVec 32) (hb : bit ≤ 8 * (b.length + 4))
    (h : xr (b ++ le4 (crc b)) (errL (b.length + 4) bit mask 32) = b' ++ le4 c') :
    c' = crc b' ↔ turnN (b.length + 4) bit mask 32 = 0 := by
  rw [← crc_fits, ← h, ← crcS_err _ _ _ hb]
  have hx : crcS (~~~ 0#32) (xr (b ++ le4 (crc b)) (errL (b.length + 4) bit mask 32)) = crcS (~~~ 0#32) (b ++ le4 (crc b)) ^^^ crcS 0#32 (errL (b.length + 4) bit mask 32) := by
    have := crcS_xor (b ++ le4 (crc b)) (errL (b.length + 4) bit mask 32) (~~~ 0#32) 0#32 (by simp [errL, le4])
    simpa using this
  have h0 := crc_behind b
  have e1 : ∀ l, crc l = ~~~ (crcS (~~~ 0#32) l) := fun _ => rfl
  generalize errL (b.length + 4) bit mask 32 = er at hx ⊢
  generalize b ++ le4 (crc b) = bb at hx h0 ⊢
  rw [e1, hx]
  rw [e1] at h0
  constructor
  · intro h1
    have h2 := BitVec.not_inj.1 (h1.trans h0.symm)
    generalize crcS (~~~ 0#32) bb = p at h2
    generalize crcS 0#32 er = q at h2
    have h3 : p ^^^ (p ^^^ q) = p ^^^ p := by rw [h2]
    rwa [← BitVec.xor_assoc, BitVec.xor_self, BitVec.zero_xor] at h3
  · intro h1
    rw [h1, BitVec.xor_zero]; exact h0
end Wells
