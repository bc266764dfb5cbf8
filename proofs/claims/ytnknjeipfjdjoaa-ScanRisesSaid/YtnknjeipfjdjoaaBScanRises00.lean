/- CrcMath BurstMath CellMath CellErr -/
set_option maxRecDepth 20000
set_option linter.unusedSimpArgs false
set_option linter.unusedVariables false
namespace Wells
/-- One bit of the sum's register. -/
def tb (s : BitVec 32) : BitVec 32 := (s >>> 1) ^^^ (if s.getLsbD 0 then 0xedb88320#32 else 0#32)
def tn : Nat → BitVec 32 → BitVec 32
  | 0, s => s
  | n + 1, s => tn n (tb s)
def by8 (s : BitVec 32) (b : BitVec 8) : BitVec 32 := tn 8 (s ^^^ b.setWidth 32)
def crcS (s : BitVec 32) (l : List (BitVec 8)) : BitVec 32 := l.foldl by8 s
def crc (l : List (BitVec 8)) : BitVec 32 := ~~~ (crcS (~~~ 0#32) l)

theorem tb_xor (a b : BitVec 32) : tb (a ^^^ b) = tb a ^^^ tb b := by
  unfold tb
  rw [BitVec.ushiftRight_xor_distrib, BitVec.getLsbD_xor]
  generalize a >>> 1 = p
  generalize b >>> 1 = q
  generalize (0xedb88320#32) = k
  cases a.getLsbD 0 <;> cases b.getLsbD 0 <;> simp
  · ac_rfl
  · ac_rfl
  · rw [show p ^^^ k ^^^ (q ^^^ k) = (p ^^^ q) ^^^ (k ^^^ k) by ac_rfl]; simp
theorem tb_zero : tb 0#32 = 0#32 := by decide
theorem tb_eq_zero {s : BitVec 32} (h : tb s = 0#32) : s = 0#32 := by
  have h31 : (tb s).getLsbD 31 = s.getLsbD 0 := by
    unfold tb
    rw [BitVec.getLsbD_xor, BitVec.getLsbD_ushiftRight]
    have : s.getLsbD (1 + 31) = false := BitVec.getLsbD_of_ge _ _ (by omega)
    rw [this]
    cases s.getLsbD 0 <;> decide
  have h0 : s.getLsbD 0 = false := by rw [← h31, h]; decide
  unfold tb at h
  rw [h0] at h
  simp only [Bool.false_eq_true, if_false, BitVec.xor_zero] at h
  apply BitVec.eq_of_getLsbD_eq
  intro i hi
  rcases i with _ | i
  · rw [h0]; simp
  · have := congrArg (fun x => x.getLsbD i) h
    simp only [BitVec.getLsbD_ushiftRight] at this
    rw [Nat.add_comm i 1, this]; simp
theorem tb_inj {a b : BitVec 32} (h : tb a = tb b) : a = b := by
  have h2 : tb (a ^^^ b) = 0#32 := by rw [tb_xor, h, BitVec.xor_self]
  have h3 := tb_eq_zero h2
  exact BitVec.xor_eq_zero_iff.1 h3
theorem tn_xor (n : Nat) : ∀ a b : BitVec 32, tn n (a ^^^ b) = tn n a ^^^ tn n b := by
  induction n with
  | zero => intros; rfl
  | succ n ih => intro a b; simp only [tn, tb_xor, ih]
theorem tn_zero (n : Nat) : tn n 0#32 = 0#32 := by
  induction n with
  | zero => rfl
  | succ n ih => simp only [tn, tb_zero, ih]
theorem tn_inj (n : Nat) : ∀ {a b : BitVec 32}, tn n a = tn n b → a = b := by
  induction n with
  | zero => intro a b h; exact h
  | succ n ih => intro a b h; exact tb_inj (ih h)
theorem tn_add (m : Nat) : ∀ (n : Nat) (s : BitVec 32), tn (m + n) s = tn n (tn m s) := by
  induction m with
  | zero => intro n s; rw [Nat.zero_add]; rfl
  | succ m ih => intro n s; rw [Nat.succ_add]; exact ih n (tb s)
theorem by8_xor (s t : BitVec 32) (a b : BitVec 8) : by8 (s ^^^ t) (a ^^^ b) = by8 s a ^^^ by8 t b := by
  unfold by8
  rw [← tn_xor, BitVec.setWidth_xor]
  congr 1
  ac_rfl
/-- bytes, place by place -/
def xr (a b : List (BitVec 8)) : List (BitVec 8) := List.zipWith (· ^^^ ·) a b
theorem crcS_xor : ∀ (a b : List (BitVec 8)) (s t : BitVec 32), a.length = b.length → crcS (s ^^^ t) (xr a b) = crcS s a ^^^ crcS t b := by
  intro a
  induction a with
  | nil => intro b s t h; cases b with
    | nil => rfl
    | cons _ _ => simp at h
  | cons x a ih => intro b s t h; cases b with
    | nil => simp at h
    | cons y b =>
      simp only [crcS, xr, List.zipWith_cons_cons, List.foldl_cons, by8_xor] at *
      exact ih b _ _ (by simpa using h)
theorem crc_joins (a b c : List (BitVec 8)) (h1 : a.length = b.length) (h2 : a.length = c.length) : crc (xr (xr a b) c) = crc a ^^^ crc b ^^^ crc c := by
  have e : (~~~ 0#32) = ((~~~ 0#32) ^^^ (~~~ 0#32)) ^^^ (~~~ 0#32) := by decide
  unfold crc
  conv => lhs; rw [e]
  rw [crcS_xor _ _ _ _ (by simp [xr]; omega), crcS_xor _ _ _ _ h1]
  generalize crcS (~~~ 0#32) a = p
  generalize crcS (~~~ 0#32) b = q
  generalize crcS (~~~ 0#32) c = r
  apply BitVec.eq_of_getLsbD_eq
  intro i hi
  simp [hi]

/-- the register over bits, one by one -/
def fd (s : BitVec 32) (l : List Bool) : BitVec 32 := l.foldl (fun s b => tb (s ^^^ (if b then 1#32 else 0#32))) s
def bits8 (b : BitVec 8) : List Bool := (List.range 8).map fun i => b.getLsbD i
/-- the number that bits are, the lowest first -/
def wd : List Bool → BitVec 32
  | [] => 0#32
  | b :: l => (if b then 1#32 else 0#32) ^^^ (wd l <<< 1)
theorem tb_low (s : BitVec 32) (v : BitVec 32) (h : v.getLsbD 31 = false) : tb (s ^^^ (v <<< 1)) = tb s ^^^ v := by
  rw [tb_xor]
  congr 1
  unfold tb
  have h0 : (v <<< 1).getLsbD 0 = false := by simp
  rw [h0]
  simp only [Bool.false_eq_true, if_false, BitVec.xor_zero]
  apply BitVec.eq_of_getLsbD_eq
  intro i hi
  simp only [BitVec.getLsbD_ushiftRight, BitVec.getLsbD_shiftLeft]
  by_cases h1 : i = 31
  · subst h1; rw [h]; simp
  · have : 1 + i < 32 := by omega
    simp [this]
theorem wd_high : ∀ (l : List Bool) (i : Nat), l.length ≤ i → (wd l).getLsbD i = false := by
  intro l
  induction l with
  | nil => intro i _; simp [wd]
  | cons b l ih =>
    intro i hi
    simp only [List.length_cons] at hi
    rcases i with _ | i
    · omega
    · unfold wd
      rw [BitVec.getLsbD_xor, BitVec.getLsbD_shiftLeft]
      have := ih i (by omega)
      simp [this]
      cases b <;> simp
theorem fd_wd : ∀ (l : List Bool) (s : BitVec 32), l.length ≤ 32 → fd s l = tn l.length (s ^^^ wd l) := by
  intro l
  induction l with
  | nil => intro s _; simp [fd, wd, tn]
  | cons b l ih =>
    intro s h
    simp only [List.length_cons] at h
    have hs : fd s (b :: l) = fd (tb (s ^^^ (if b then 1#32 else 0#32))) l := rfl
    rw [hs, ih _ (by omega), List.length_cons, tn, wd, ← BitVec.xor_assoc, tb_low _ _ (wd_high l 31 (by omega))]
theorem wd_get : ∀ (l : List Bool) (i : Nat), i < l.length → i < 32 → (wd l).getLsbD i = l.getD i false := by
  intro l
  induction l with
  | nil => intro i h; simp at h
  | cons b l ih =>
    intro i h h32
    simp only [List.length_cons] at h
    unfold wd
    rw [BitVec.getLsbD_xor, BitVec.getLsbD_shiftLeft]
    rcases i with _ | i
    · cases b <;> simp
    · have := ih i (by omega) (by omega)
      simp only [Nat.add_sub_cancel, this, List.getD_cons_succ]
      have hb : (if b = true then 1#32 else 0#32).getLsbD (i + 1) = false := by cases b <;> simp
      rw [hb]
      simp
      omega
theorem wd_zero {l : List Bool} (hl : l.length ≤ 32) (h : wd l = 0#32) : ∀ i, l.getD i false = false := by
  intro i
  by_cases hi : i < l.length
  · rw [← wd_get l i hi (by omega), h]; simp
  · rw [List.getD_eq_getElem?_getD, List.getElem?_eq_none (by omega)]; rfl
theorem fd_append (s : BitVec 32) (a b : List Bool) : fd s (a ++ b) = fd (fd s a) b := by simp [fd]
theorem fd_false (n : Nat) : ∀ s, fd s (List.replicate n false) = tn n s := by
  induction n with
  | zero => intro s; rfl
  | succ n ih => intro s; rw [List.replicate_succ]; show fd (tb (s ^^^ 0#32)) _ = _; rw [ih, BitVec.xor_zero]; rfl
theorem by8_fd (s : BitVec 32) (b : BitVec 8) : by8 s b = fd s (bits8 b) := by
  rw [fd_wd _ _ (by simp [bits8])]
  unfold by8
  rw [show (bits8 b).length = 8 by simp [bits8]]
  congr 2
  apply BitVec.eq_of_getLsbD_eq
  intro i hi
  by_cases h8 : i < 8
  · rw [wd_get _ _ (by simp [bits8, h8]) hi]
    simp [bits8, h8, hi]
  · rw [wd_high _ _ (by simp [bits8]; omega), BitVec.getLsbD_setWidth, BitVec.getLsbD_of_ge b i (by omega)]
    simp
def allBits (l : List (BitVec 8)) : List Bool := l.flatMap bits8
theorem crcS_fd : ∀ (l : List (BitVec 8)) (s : BitVec 32), crcS s l = fd s (allBits l) := by
  intro l
  induction l with
  | nil => intro s; rfl
  | cons b l ih =>
    intro s
    show crcS (by8 s b) l = fd s (bits8 b ++ allBits l)
    rw [ih, by8_fd, fd_append]
/-- an error whose bits lie within 32: it's seen unless it's none -/
theorem burst_zero (p q : Nat) (m : List Bool) (hm : m.length ≤ 32) : fd 0#32 (List.replicate p false ++ m ++ List.replicate q false) = 0#32 ↔ ∀ i, m.getD i false = false := by
  rw [fd_append, fd_append, fd_false, fd_false, tn_zero, fd_wd m _ hm]
  constructor
  · intro h
    have h1 := tn_inj q (h.trans (tn_zero q).symm)
    have h2 := tn_inj m.length (h1.trans (tn_zero m.length).symm)
    exact wd_zero hm (by simpa using h2)
  · intro h
    have : wd m = 0#32 := by
      apply BitVec.eq_of_getLsbD_eq
      intro i hi
      by_cases hl : i < m.length
      · rw [wd_get m i hl hi, h]; simp
      · rw [wd_high m i (by omega)]; simp
    rw [this, BitVec.xor_zero, tn_zero, tn_zero]
/-- the four bytes of a sum, the lowest first -/
def le4 (c : BitVec 32) : List (BitVec 8) := [c.setWidth 8, (c >>> 8).setWidth 8, (c >>> 16).setWidth 8, (c >>> 24).setWidth 8]
theorem allBits_le4 (c : BitVec 32) : allBits (le4 c) = (List.range 32).map fun i => c.getLsbD i := by
  simp [allBits, le4, bits8, List.range_succ]
theorem crcS_le4 (s c : BitVec 32) : crcS s (le4 c) = tn 32 (s ^^^ c) := by
  rw [crcS_fd, allBits_le4, fd_wd _ _ (by simp)]
  rw [show (List.map (fun i => c.getLsbD i) (List.range 32)).length = 32 by simp]
  congr 2
  apply BitVec.eq_of_getLsbD_eq
  intro i hi
  rw [wd_get _ _ (by simpa using hi) hi]
  simp [hi]
theorem crc_behind (b : List (BitVec 8)) : crc (b ++ le4 (crc b)) = 0x2144df1c#32 := by
  have h : crcS (~~~ 0#32) (b ++ le4 (crc b)) = tn 32 (~~~ 0#32) := by
    have : crcS (~~~ 0#32) (b ++ le4 (crc b)) = crcS (crcS (~~~ 0#32) b) (le4 (crc b)) := by simp [crcS]
    rw [this, crcS_le4]
    unfold crc
    congr 1
    generalize crcS (~~~ 0#32) b = s
    apply BitVec.eq_of_getLsbD_eq
    intro i hi
    rw [BitVec.getLsbD_xor, BitVec.getLsbD_not, BitVec.getLsbD_not]
    simp [hi]
  unfold crc at h ⊢
  rw [h]
  decide
theorem crc_fits (b : List (BitVec 8)) (c : BitVec 32) : crc (b ++ le4 c) = 0x2144df1c#32 ↔ c = crc b := by
  constructor
  · intro h
    have h2 := h.trans (crc_behind b).symm
    unfold crc at h2
    have e := fun x : BitVec 32 => show crcS (~~~ 0#32) (b ++ le4 x) = tn 32 (crcS (~~~ 0#32) b ^^^ x) by rw [← crcS_le4]; simp [crcS]
    rw [e, e] at h2
    have h3 := tn_inj 32 (BitVec.not_inj.1 h2)
    exact (BitVec.xor_right_inj _).1 h3
  · rintro rfl; exact crc_behind b
end Wells

namespace Wells
def bitOf (b : Bool) : BitVec 8 := if b then 1#8 else 0#8
def byte8 (a b c d e f g h : Bool) : BitVec 8 := bitOf a ||| bitOf b <<< 1 ||| bitOf c <<< 2 ||| bitOf d <<< 3 ||| bitOf e <<< 4 ||| bitOf f <<< 5 ||| bitOf g <<< 6 ||| bitOf h <<< 7
def byteOf (f : Nat → Bool) : BitVec 8 := byte8 (f 0) (f 1) (f 2) (f 3) (f 4) (f 5) (f 6) (f 7)
theorem byteOf_get (f : Nat → Bool) (r : Nat) (hr : r < 8) : (byteOf f).getLsbD r = f r := by
  unfold byteOf byte8
  have h : ∀ b : Bool, ∀ i : Nat, (bitOf b).getLsbD i = (b && decide (i = 0)) := by
    intro b i
    cases b
    · simp [bitOf]
    · cases i <;> simp [bitOf]
  simp only [BitVec.getLsbD_or, BitVec.getLsbD_shiftLeft, h]
  obtain rfl | rfl | rfl | rfl | rfl | rfl | rfl | rfl : r = 0 ∨ r = 1 ∨ r = 2 ∨ r = 3 ∨ r = 4 ∨ r = 5 ∨ r = 6 ∨ r = 7 := by omega
  all_goals simp
/-- byte j of an error: bits from 'bit' on, the first n of a mask -/
def errB (bit : Nat) (mask : BitVec 32) (n j : Nat) : BitVec 8 :=
  byteOf fun r => decide (bit ≤ 8 * j + r ∧ 8 * j + r < bit + n) && mask.getLsbD (8 * j + r - bit)
def errL (len bit : Nat) (mask : BitVec 32) (n : Nat) : List (BitVec 8) := (List.range len).map (errB bit mask n)
theorem errB_get (bit : Nat) (mask : BitVec 32) (n j r : Nat) (hr : r < 8) :
    (errB bit mask n j).getLsbD r = (decide (bit ≤ 8 * j + r ∧ 8 * j + r < bit + n) && mask.getLsbD (8 * j + r - bit)) := by
  unfold errB
  rw [byteOf_get _ _ hr]
def errBit (bit : Nat) (mask : BitVec 32) (n k : Nat) : Bool := decide (bit ≤ k ∧ k < bit + n) && mask.getLsbD (k - bit)
theorem bits8_errB (bit : Nat) (mask : BitVec 32) (n j : Nat) : bits8 (errB bit mask n j) = (List.range 8).map fun r => errBit bit mask n (8 * j + r) := by
  unfold bits8
  apply List.map_congr_left
  intro r hr
  exact errB_get bit mask n j r (by simpa using hr)
theorem allBits_append (a b : List (BitVec 8)) : allBits (a ++ b) = allBits a ++ allBits b := by simp [allBits]
theorem allBits_errL (bit : Nat) (mask : BitVec 32) (n : Nat) : ∀ len, allBits (errL len bit mask n) = (List.range (8 * len)).map (errBit bit mask n) := by
  intro len
  induction len with
  | zero => rfl
  | succ len ih =>
    have h1 : errL (len + 1) bit mask n = errL len bit mask n ++ [errB bit mask n len] := by simp [errL, List.range_succ]
    rw [h1, allBits_append, ih]
    have h2 : allBits [errB bit mask n len] = (List.range 8).map fun r => errBit bit mask n (8 * len + r) := by
      rw [← bits8_errB]; simp [allBits]
    rw [h2, show 8 * (len + 1) = 8 * len + 8 by omega, List.range_add, List.map_append, List.map_map]
    rfl
theorem map_errBit (bit len : Nat) (mask : BitVec 32) (hb : bit ≤ 8 * len) :
    (List.range (8 * len)).map (errBit bit mask 32) =
      List.replicate bit false ++ (List.range (min 32 (8 * len - bit))).map (fun i => mask.getLsbD i) ++ List.replicate (8 * len - bit - 32) false := by
  apply List.ext_getElem?
  intro k
  by_cases h1 : k < bit
  · rw [List.append_assoc, List.getElem?_append_left (by simpa using h1)]
    rw [List.getElem?_map, List.getElem?_range (by omega), List.getElem?_replicate]
    simp [errBit, h1]
    omega
  · by_cases h2 : k < 8 * len
    · rw [List.append_assoc, List.getElem?_append_right (by simp; omega)]
      rw [List.getElem?_map, List.getElem?_range h2]
      simp only [List.length_replicate, Option.map_some]
      by_cases h3 : k < bit + 32
      · rw [List.getElem?_append_left (by simp; omega), List.getElem?_map, List.getElem?_range (by omega)]
        simp [errBit]
        intro _
        constructor <;> omega
      · rw [List.getElem?_append_right (by simp; omega), List.getElem?_replicate]
        simp [errBit]
        constructor
        · omega
        · intro hh; omega
    · rw [List.getElem?_eq_none (by simp; omega), List.getElem?_eq_none (by simp; omega)]
/-- how many bits are turned by the first n of a mask -/
def turnN (len bit : Nat) (mask : BitVec 32) : Nat → Nat
  | 0 => 0
  | n + 1 => turnN len bit mask n + if mask.getLsbD n = true ∧ bit + n < 8 * len then 1 else 0
theorem turnN_zero (len bit : Nat) (mask : BitVec 32) : ∀ n, turnN len bit mask n = 0 ↔ ∀ i, i < n → bit + i < 8 * len → mask.getLsbD i = false := by
  intro n
  induction n with
  | zero => simp [turnN]
  | succ n ih =>
    unfold turnN
    constructor
    · intro h i hi hl
      have h1 : turnN len bit mask n = 0 := by omega
      by_cases hin : i = n
      · subst hin
        by_cases hm : mask.getLsbD i = true
        · rw [if_pos ⟨hm, hl⟩] at h; omega
        · simpa using hm
      · exact ih.1 h1 i (by omega) hl
    · intro h
      rw [ih.2 (fun i hi hl => h i (by omega) hl)]
      by_cases hl : bit + n < 8 * len
      · rw [h n (by omega) hl]; simp
      · rw [if_neg (by simp; omega)]
theorem turnN_le (len bit : Nat) (mask : BitVec 32) : ∀ n, turnN len bit mask n ≤ n := by
  intro n
  induction n with
  | zero => simp [turnN]
  | succ n ih => unfold turnN; split <;> omega
theorem crcS_err (len bit : Nat) (mask : BitVec 32) (hb : bit ≤ 8 * len) : crcS 0#32 (errL len bit mask 32) = 0#32 ↔ turnN len bit mask 32 = 0 := by
  rw [crcS_fd, allBits_errL, map_errBit bit len mask hb, burst_zero _ _ _ (by simp; omega), turnN_zero]
  constructor
  · intro h i hi hl
    have := h i
    rw [List.getD_eq_getElem?_getD, List.getElem?_map, List.getElem?_range (by omega)] at this
    simpa using this
  · intro h i
    rw [List.getD_eq_getElem?_getD, List.getElem?_map]
    by_cases hi : i < min 32 (8 * len - bit)
    · rw [List.getElem?_range hi]; simpa using h i (by omega) (by omega)
    · rw [List.getElem?_eq_none (by simpa using hi)]; rfl
theorem xr_length (a b : List (BitVec 8)) : (xr a b).length = min a.length b.length := by simp [xr]
theorem errL_length (len bit : Nat) (mask : BitVec 32) (n : Nat) : (errL len bit mask n).length = len := by simp [errL]
theorem errB_step (bit : Nat) (mask : BitVec 32) (k j : Nat) :
    errB bit mask (k + 1) j = if mask.getLsbD k = true ∧ (bit + k) / 8 = j then errB bit mask k j ^^^ (1#8 <<< ((bit + k) % 8)) else errB bit mask k j := by
  apply BitVec.eq_of_getLsbD_eq
  intro r hr
  have hs : ∀ s : Nat, (1#8 <<< s).getLsbD r = decide (r = s) := by
    intro s
    rw [BitVec.getLsbD_shiftLeft]
    by_cases h : r < s
    · have : ¬ r = s := by omega
      simp [h, this]
    · by_cases h2 : r = s
      · subst h2; simp [hr]
      · have : r - s ≠ 0 := by omega
        simp [h2, this]
  rw [errB_get _ _ _ _ _ hr]
  by_cases hm : mask.getLsbD k = true ∧ (bit + k) / 8 = j
  · rw [if_pos hm, BitVec.getLsbD_xor, errB_get _ _ _ _ _ hr, hs]
    obtain ⟨h1, h2⟩ := hm
    by_cases he : 8 * j + r = bit + k
    · have h3 : r = (bit + k) % 8 := by omega
      have h4 : 8 * j + r - bit = k := by omega
      have h5 : ¬ (bit ≤ 8 * j + r ∧ 8 * j + r < bit + k) := by omega
      have h6 : bit ≤ 8 * j + r ∧ 8 * j + r < bit + (k + 1) := by omega
      rw [decide_eq_false h5, decide_eq_true h6, h4, h1, decide_eq_true h3]
      rfl
    · have h3 : ¬ r = (bit + k) % 8 := by omega
      rw [decide_eq_false h3, Bool.xor_false]
      congr 1
      apply decide_eq_decide.2
      omega
  · rw [if_neg hm, errB_get _ _ _ _ _ hr]
    by_cases he : 8 * j + r = bit + k
    · have h4 : 8 * j + r - bit = k := by omega
      have h1 : mask.getLsbD k = false := by
        by_cases hk : mask.getLsbD k = true
        · exact absurd ⟨hk, by omega⟩ hm
        · simpa using hk
      rw [h4, h1]
      simp
    · congr 1
      apply decide_eq_decide.2
      omega
theorem xr_errL_stay (l : List (BitVec 8)) (n bit : Nat) (mask : BitVec 32) (k : Nat) (h : ¬ (mask.getLsbD k = true ∧ bit + k < 8 * n)) : xr l (errL n bit mask (k + 1)) = xr l (errL n bit mask k) := by
  congr 1
  unfold errL
  apply List.map_congr_left
  intro j hj
  rw [errB_step, if_neg]
  simp at hj
  rintro ⟨h1, h2⟩
  exact h ⟨h1, by omega⟩
theorem xr_errL_turn (l : List (BitVec 8)) (n bit : Nat) (mask : BitVec 32) (k : Nat) (hl : l.length = n) (h : mask.getLsbD k = true) (hk : bit + k < 8 * n) :
    xr l (errL n bit mask (k + 1)) = (xr l (errL n bit mask k)).set ((bit + k) / 8) ((xr l (errL n bit mask k)).getD ((bit + k) / 8) 0 ^^^ (1#8 <<< ((bit + k) % 8))) := by
  apply List.ext_getElem?
  intro j
  have hj8 : (bit + k) / 8 < n := by omega
  by_cases hj : j < n
  · have e1 : ∀ q, (xr l (errL n bit mask q))[j]? = some (l[j]'(by omega) ^^^ errB bit mask q j) := by
      intro q
      simp [xr, errL, List.getElem?_zipWith, hj, hl]
    rw [e1, errB_step, List.getElem?_set]
    by_cases he : (bit + k) / 8 = j
    · subst he
      rw [if_pos ⟨h, rfl⟩, if_pos rfl, if_pos (by rw [xr_length, errL_length]; omega), List.getD_eq_getElem?_getD, e1]
      simp [BitVec.xor_assoc]
    · rw [if_neg (by omega), if_neg he, e1]
  · rw [List.getElem?_eq_none (by rw [xr_length, errL_length]; omega), List.getElem?_eq_none (by rw [List.length_set, xr_length, errL_length]; omega)]
/-- of bytes with their sum behind them -/
theorem crc_burst (b : List (BitVec 8)) (bit : Nat) (mask : BitVec 32) (b' : List (BitVec 8)) (c' : BitVec 32) (hb : bit ≤ 8 * (b.length + 4))
    (h : xr (b ++ le4 (crc b)) (errL (b.length + 4) bit mask 32) = b' ++ le4 c') :
    c' = crc b' ↔ turnN (b.length + 4) bit mask 32 = 0 := by
  rw [← crc_fits, ← h, ← crcS_err _ _ _ hb]
  have hx : crcS (~~~ 0#32) (xr (b ++ le4 (crc b)) (errL (b.length + 4) bit mask 32)) = crcS (~~~ 0#32) (b ++ le4 (crc b)) ^^^ crcS 0#32 (errL (b.length + 4) bit mask 32) := by
    have := crcS_xor (b ++ le4 (crc b)) (errL (b.length + 4) bit mask 32) (~~~ 0#32) 0#32 (by simp [errL, le4])
    simpa using this
  have h0 := crc_behind b
  have e1 : ∀ l, crc l = ~~~ (crcS (~~~ 0#32) l) := fun _ => rfl
  generalize errL (b.length + 4) bit mask 32 = er at hx ⊢
  generalize b ++ le4 (crc b) = bb at hx h0 ⊢
  rw [e1, hx]
  rw [e1] at h0
  constructor
  · intro h1
    have h2 := BitVec.not_inj.1 (h1.trans h0.symm)
    generalize crcS (~~~ 0#32) bb = p at h2
    generalize crcS 0#32 er = q at h2
    have h3 : p ^^^ (p ^^^ q) = p ^^^ p := by rw [h2]
    rwa [← BitVec.xor_assoc, BitVec.xor_self, BitVec.zero_xor] at h3
  · intro h1
    rw [h1, BitVec.xor_zero]; exact h0
end Wells

namespace Wells
abbrev BL := List (BitVec 8)
def pad (b : BL) : BL := b ++ List.replicate (55 - b.length) 0#8
def front (k : BitVec 8) (b : BL) : BL := [0x57#8, 0x73#8, 1#8, k] ++ pad b
def frame (k : BitVec 8) (b : BL) : BL := front k b ++ le4 (crc (front k b)) ++ [0xa5#8]
def cellL (kind : Int) (b : BL) : BL := if 1 ≤ kind ∧ kind ≤ 255 ∧ b.length ≤ 55 then frame (BitVec.ofNat 8 kind.toNat) b else []
def takeP (b : BL) : Option (BitVec 8 × BL) :=
  if b.length = 64 ∧ cellL ((b.getD 3 0).toNat) ((b.drop 4).take 55) = b then some (b.getD 3 0, (b.drop 4).take 55) else none
theorem pad_len {b : BL} (h : b.length ≤ 55) : (pad b).length = 55 := by unfold pad; simp; omega
theorem pad_full {b : BL} (h : b.length = 55) : pad b = b := by unfold pad; simp [h]
theorem le4_len (c : BitVec 32) : (le4 c).length = 4 := rfl
theorem front_len {k : BitVec 8} {b : BL} (h : b.length ≤ 55) : (front k b).length = 59 := by unfold front; rw [List.length_append, pad_len h]; rfl
theorem frame_len {k : BitVec 8} {b : BL} (h : b.length ≤ 55) : (frame k b).length = 64 := by unfold frame; rw [List.length_append, List.length_append, front_len h, le4_len]; rfl
theorem cellL_yes {kind : Int} {b : BL} (h : 1 ≤ kind ∧ kind ≤ 255 ∧ b.length ≤ 55) : cellL kind b = frame (BitVec.ofNat 8 kind.toNat) b := if_pos h
theorem cellL_no {kind : Int} {b : BL} (h : ¬ (1 ≤ kind ∧ kind ≤ 255 ∧ b.length ≤ 55)) : cellL kind b = [] := if_neg h
theorem cellL_len (kind : Int) (b : BL) : (cellL kind b).length = if 1 ≤ kind ∧ kind ≤ 255 ∧ b.length ≤ 55 then 64 else 0 := by
  unfold cellL; split
  · exact frame_len (by omega)
  · rfl
theorem frame_kind {k : BitVec 8} {b : BL} : (frame k b).getD 3 0 = k := by unfold frame front; simp
theorem frame_body {k : BitVec 8} {b : BL} (h : b.length ≤ 55) : ((frame k b).drop 4).take 55 = pad b := by
  unfold frame front
  have := pad_len h
  simp [List.take_append, this]
  try rw [List.take_of_length_le (by omega), List.take_of_length_le (by omega)]
  try simp
theorem front_pad {k : BitVec 8} {b : BL} (h : b.length ≤ 55) : front k (pad b) = front k b := by
  unfold front; rw [pad_full (pad_len h)]
theorem frame_pad {k : BitVec 8} {b : BL} (h : b.length ≤ 55) : frame k (pad b) = frame k b := by unfold frame; rw [front_pad h]
theorem ofNat_toNat8 (k : BitVec 8) : BitVec.ofNat 8 ((k.toNat : Int)).toNat = k := by simp
theorem take_frame {k : BitVec 8} {b : BL} (hk : k ≠ 0#8) (h : b.length ≤ 55) : takeP (frame k b) = some (k, pad b) := by
  unfold takeP
  rw [frame_kind, frame_body h]
  have hk1 : 1 ≤ k.toNat := by
    rcases Nat.eq_zero_or_pos k.toNat with h0 | h0
    · exact absurd (BitVec.eq_of_toNat_eq (by simpa using h0)) hk
    · exact h0
  have hk2 := k.isLt
  rw [if_pos ⟨frame_len h, by rw [cellL_yes ⟨by omega, by omega, by rw [pad_len h]; omega⟩, ofNat_toNat8, frame_pad h]⟩]
theorem take_some {b : BL} {k : BitVec 8} {x : BL} (h : takeP b = some (k, x)) : k ≠ 0#8 ∧ x.length = 55 ∧ b = frame k x := by
  unfold takeP at h
  split at h
  · rename_i hc
    injection h with h
    injection h with h1 h2
    obtain ⟨hl, he⟩ := hc
    rw [h1, h2] at he
    have hx : x.length = 55 := by rw [← h2]; simp [hl]
    by_cases hk : 1 ≤ (k.toNat : Int) ∧ (k.toNat : Int) ≤ 255 ∧ x.length ≤ 55
    · rw [cellL_yes hk, ofNat_toNat8] at he
      exact ⟨by rintro rfl; simp at hk, hx, he.symm⟩
    · rw [cellL_no hk] at he
      rw [← he] at hl
      simp at hl
  · cases h
/-- what makes bytes a cell -/
def IsCell (b : BL) : Prop := ∃ k x, k ≠ 0#8 ∧ x.length = 55 ∧ b = frame k x
theorem take_isSome (b : BL) : (takeP b).isSome = true ↔ IsCell b := by
  constructor
  · intro h
    cases ht : takeP b with
    | none => rw [ht] at h; cases h
    | some p => obtain ⟨h1, h2, h3⟩ := take_some (k := p.1) (x := p.2) ht; exact ⟨p.1, p.2, h1, h2, h3⟩
  · rintro ⟨k, x, hk, hx, rfl⟩
    rw [take_frame hk (by omega)]; rfl
theorem le4_from (b0 b1 b2 b3 : BitVec 8) : ∃ c, le4 c = [b0, b1, b2, b3] := by
  have h0 := b0.isLt
  have h1 := b1.isLt
  have h2 := b2.isLt
  have h3 := b3.isLt
  refine ⟨BitVec.ofNat 32 (b0.toNat + 256 * b1.toNat + 65536 * b2.toNat + 16777216 * b3.toNat), ?_⟩
  have e : (BitVec.ofNat 32 (b0.toNat + 256 * b1.toNat + 65536 * b2.toNat + 16777216 * b3.toNat)).toNat = b0.toNat + 256 * b1.toNat + 65536 * b2.toNat + 16777216 * b3.toNat := by
    rw [BitVec.toNat_ofNat]; omega
  generalize BitVec.ofNat 32 (b0.toNat + 256 * b1.toNat + 65536 * b2.toNat + 16777216 * b3.toNat) = c at e
  unfold le4
  congr 1
  · exact BitVec.eq_of_toNat_eq (by rw [BitVec.toNat_setWidth, e]; omega)
  congr 1
  · exact BitVec.eq_of_toNat_eq (by rw [BitVec.toNat_setWidth, BitVec.toNat_ushiftRight, Nat.shiftRight_eq_div_pow, e]; omega)
  congr 1
  · exact BitVec.eq_of_toNat_eq (by rw [BitVec.toNat_setWidth, BitVec.toNat_ushiftRight, Nat.shiftRight_eq_div_pow, e]; omega)
  congr 1
  · exact BitVec.eq_of_toNat_eq (by rw [BitVec.toNat_setWidth, BitVec.toNat_ushiftRight, Nat.shiftRight_eq_div_pow, e]; omega)
theorem split4' (x : BL) (n : Nat) (h : x.length = n + 4) : ∃ b c, x = b ++ le4 c ∧ b.length = n := by
  obtain ⟨c, hc⟩ := le4_from (x.getD n 0) (x.getD (n + 1) 0) (x.getD (n + 2) 0) (x.getD (n + 3) 0)
  refine ⟨x.take n, c, ?_, by simp; omega⟩
  rw [hc]
  have e : x.drop n = [x.getD n 0, x.getD (n + 1) 0, x.getD (n + 2) 0, x.getD (n + 3) 0] := by
    apply List.ext_getElem?
    intro i
    rw [List.getElem?_drop]
    by_cases hi : i < 4
    · obtain rfl | rfl | rfl | rfl : i = 0 ∨ i = 1 ∨ i = 2 ∨ i = 3 := by omega
      all_goals (rw [List.getElem?_eq_getElem (by omega)]; simp [show n < x.length by omega, show n + 1 < x.length by omega, show n + 2 < x.length by omega, show n + 3 < x.length by omega])
    · rw [List.getElem?_eq_none (by omega), List.getElem?_eq_none (by simp; omega)]
  rw [← e, List.take_append_drop]
/-- a cell, by its parts: its ends, its kind, and a sum over 63 bytes that is always the same -/
theorem isCell_iff (b : BL) : IsCell b ↔ b.length = 64 ∧ b.take 3 = [0x57#8, 0x73#8, 1#8] ∧ b.getD 3 0 ≠ 0#8 ∧ b.getD 63 0 = 0xa5#8 ∧ crc (b.take 63) = 0x2144df1c#32 := by
  constructor
  · rintro ⟨k, x, hk, hx, rfl⟩
    have hl := frame_len (k := k) (b := x) (by omega)
    have hf := front_len (k := k) (b := x) (by omega)
    have e63 : (frame k x).take 63 = front k x ++ le4 (crc (front k x)) := by
      unfold frame
      rw [List.take_append_of_le_length (by rw [List.length_append, hf, le4_len]; omega), List.take_of_length_le (by rw [List.length_append, hf, le4_len]; omega)]
    refine ⟨hl, by unfold frame front; simp, by rw [frame_kind]; exact hk, ?_, by rw [e63, crc_behind]⟩
    unfold frame
    rw [List.getD_eq_getElem?_getD, List.getElem?_append_right (by rw [List.length_append, hf, le4_len]; omega), List.length_append, hf, le4_len]
    rfl
  · rintro ⟨hl, h3, hk, h63, hc⟩
    obtain ⟨y, c, hy, hyl⟩ := split4' (b.take 63) 59 (by simp [hl])
    rw [hy] at hc
    have hcc := (crc_fits y c).1 hc
    have hb : b = b.take 63 ++ [0xa5#8] := by
      conv => lhs; rw [← List.take_append_drop 63 b]
      congr 1
      rw [← h63]
      have hd : (b.drop 63).length = 1 := by simp [hl]
      rw [List.getD_eq_getElem?_getD, List.getElem?_eq_getElem (by omega)]
      apply List.ext_getElem
      · simp [hl]
      · intro i h1 h2
        simp at h2
        subst h2
        simp
    have hyb : y = b.take 59 := by
      have := congrArg (List.take 59) hy
      rw [List.take_append_of_le_length (by omega), List.take_of_length_le (l := y) (by omega), List.take_take] at this
      exact this.symm
    have hy3 : y = front (b.getD 3 0) (y.drop 4) := by
      unfold front
      rw [pad_full (by simp [hyl])]
      have h4 : y.take 4 = [0x57#8, 0x73#8, 1#8, b.getD 3 0] := by
        rw [hyb, List.take_take, show min 4 59 = 3 + 1 by omega, List.take_succ_eq_append_getElem (by omega), h3]
        simp [hl]
      rw [← h4, List.take_append_drop]
    refine ⟨b.getD 3 0, y.drop 4, hk, by simp [hyl], ?_⟩
    unfold frame
    rw [← hy3, ← hcc, ← hy]
    exact hb
end Wells

namespace Wells
theorem xr_zero (b e : BL) (h : b.length = e.length) (hz : ∀ i, e.getD i 0 = 0#8) : xr b e = b := by
  unfold xr
  apply List.ext_getElem?
  intro i
  rw [List.getElem?_zipWith]
  by_cases hi : i < b.length
  · rw [List.getElem?_eq_getElem hi, List.getElem?_eq_getElem (show i < e.length by omega)]
    have := hz i
    rw [List.getD_eq_getElem?_getD, List.getElem?_eq_getElem (show i < e.length by omega)] at this
    simp at this
    simp [this]
  · rw [List.getElem?_eq_none (by omega)]
theorem errL_getD (len bit : Nat) (mask : BitVec 32) (n i : Nat) : (errL len bit mask n).getD i 0 = if i < len then errB bit mask n i else 0#8 := by
  unfold errL
  rw [List.getD_eq_getElem?_getD, List.getElem?_map]
  by_cases h : i < len
  · rw [List.getElem?_range h, if_pos h]; rfl
  · rw [List.getElem?_eq_none (by simpa using h), if_neg h]; rfl
theorem errB_zero {bit : Nat} {mask : BitVec 32} {n j : Nat} (h : ∀ r, r < 8 → errBit bit mask n (8 * j + r) = false) : errB bit mask n j = 0#8 := by
  apply BitVec.eq_of_getLsbD_eq
  intro r hr
  rw [errB_get _ _ _ _ _ hr]
  have := h r hr
  unfold errBit at this
  rw [this]
  simp
theorem cell_burst {b : BL} (hb : IsCell b) (bit : Nat) (mask : BitVec 32) (hbit : bit ≤ 8 * 64) : IsCell (xr b (errL 64 bit mask 32)) ↔ turnN 64 bit mask 32 = 0 := by
  obtain ⟨hl, h3, hk, h63, hc⟩ := (isCell_iff b).1 hb
  constructor
  · intro hb'
    obtain ⟨hl', h3', hk', h63', hc'⟩ := (isCell_iff _).1 hb'
    have e63 : errB bit mask 32 63 = 0#8 := by
      have h1 : (xr b (errL 64 bit mask 32)).getD 63 0 = b.getD 63 0 ^^^ (errL 64 bit mask 32).getD 63 0 := by
        unfold xr
        rw [List.getD_eq_getElem?_getD, List.getElem?_zipWith, List.getElem?_eq_getElem (show 63 < b.length by omega), List.getElem?_eq_getElem (show 63 < (errL 64 bit mask 32).length by rw [errL_length]; omega)]
        simp [List.getD_eq_getElem?_getD, hl, errL_length]
      rw [h1, h63, errL_getD, if_pos (by omega)] at h63'
      have := congrArg (fun x => 0xa5#8 ^^^ x) h63'
      simpa [← BitVec.xor_assoc] using this
    have ht : (xr b (errL 64 bit mask 32)).take 63 = xr (b.take 63) (errL 63 bit mask 32) := by
      unfold xr
      rw [List.take_zipWith]
      congr 1
    rw [ht] at hc'
    have hx : crcS 0#32 (errL 63 bit mask 32) = 0#32 := by
      have h1 := crcS_xor (b.take 63) (errL 63 bit mask 32) (~~~ 0#32) 0#32 (by simp [hl, errL_length])
      unfold crc at hc hc'
      have h2 : crcS (~~~ 0#32) (xr (b.take 63) (errL 63 bit mask 32)) = crcS (~~~ 0#32) (b.take 63) := by
        have := hc'.trans hc.symm
        have := congrArg (fun x => ~~~ x) this
        simpa using this
      rw [BitVec.xor_zero, h2] at h1
      have := congrArg (fun x => crcS (~~~ 0#32) (b.take 63) ^^^ x) h1
      simpa [← BitVec.xor_assoc] using this.symm
    have h0 : turnN 63 bit mask 32 = 0 := by
      by_cases hb63 : bit ≤ 8 * 63
      · exact (crcS_err 63 bit mask hb63).1 hx
      · exact (turnN_zero 63 bit mask 32).2 (fun i _ h => by omega)
    refine (turnN_zero 64 bit mask 32).2 fun i hi hlt => ?_
    by_cases h5 : bit + i < 8 * 63
    · exact (turnN_zero 63 bit mask 32).1 h0 i hi h5
    · have := congrArg (fun x => x.getLsbD (bit + i - 504)) e63
      rw [errB_get _ _ _ _ _ (by omega)] at this
      have e1 : 8 * 63 + (bit + i - 504) - bit = i := by omega
      rw [e1, decide_eq_true (by omega)] at this
      simpa using this
  · intro h0
    rw [xr_zero b _ (by rw [errL_length, hl]) fun j => ?_]
    · exact hb
    · rw [errL_getD]
      split
      · refine errB_zero fun r hr => ?_
        unfold errBit
        by_cases hin : bit ≤ 8 * j + r ∧ 8 * j + r < bit + 32
        · rw [(turnN_zero 64 bit mask 32).1 h0 (8 * j + r - bit) (by omega) (by omega)]
          simp
        · rw [decide_eq_false hin]; rfl
      · rfl
theorem flip_err (k : Nat) (c : BitVec 8) (j : Nat) : errB (8 * k) (c.setWidth 32) 32 j = if j = k then c else 0#8 := by
  apply BitVec.eq_of_getLsbD_eq
  intro r hr
  rw [errB_get _ _ _ _ _ hr]
  by_cases hjk : j = k
  · subst hjk
    rw [if_pos rfl, decide_eq_true (by omega), show 8 * j + r - 8 * j = r by omega, BitVec.getLsbD_setWidth, decide_eq_true (by omega)]
    simp
  · rw [if_neg hjk]
    by_cases hin : 8 * k ≤ 8 * j + r ∧ 8 * j + r < 8 * k + 32
    · rw [decide_eq_true hin, BitVec.getLsbD_setWidth, BitVec.getLsbD_of_ge c (8 * j + r - 8 * k) (by omega)]
      simp
    · rw [decide_eq_false hin]; simp
theorem flip_xr {b : BL} (hl : b.length = 64) (k : Nat) (c : BitVec 8) (hk : k < 64) : xr b (errL 64 (8 * k) (c.setWidth 32) 32) = b.set k (b.getD k 0 ^^^ c) := by
  unfold xr errL
  apply List.ext_getElem?
  intro i
  rw [List.getElem?_zipWith, List.getElem?_map, List.getElem?_set]
  by_cases hi : i < 64
  · rw [List.getElem?_range hi, List.getElem?_eq_getElem (by omega)]
    simp only [Option.map_some, flip_err]
    by_cases hik : k = i
    · subst hik; simp [hl, hk, List.getD_eq_getElem?_getD]
    · rw [if_neg hik, if_neg (fun h => hik h.symm)]; simp
  · rw [List.getElem?_eq_none (by omega), if_neg (by omega)]
theorem cell_flip {b : BL} (hb : IsCell b) (k : Nat) (c : BitVec 8) (hk : k < 64) : IsCell (b.set k (b.getD k 0 ^^^ c)) ↔ c = 0#8 := by
  have hl := ((isCell_iff b).1 hb).1
  rw [← flip_xr hl k c hk, cell_burst hb _ _ (by omega), turnN_zero]
  constructor
  · intro h
    apply BitVec.eq_of_getLsbD_eq
    intro r hr
    have := h r (by omega) (by omega)
    rw [BitVec.getLsbD_setWidth, decide_eq_true (by omega)] at this
    simpa using this
  · rintro rfl i hi _
    simp
end Wells

