namespace Wells
/-- One bit of the sum's register. -/
def tb (s : BitVec 32) : BitVec 32 := (s >>> 1) ^^^ (if s.getLsbD 0 then 0xedb88320#32 else 0#32)
def tn : Nat → BitVec 32 → BitVec 32
  | 0, s => s
  | n + 1, s => tn n (tb s)
def by8 (s : BitVec 32) (b : BitVec 8) : BitVec 32 := tn 8 (s ^^^ b.setWidth 32)
def crcS (s : BitVec 32) (l : List (BitVec 8)) : BitVec 32 := l.foldl by8 s
def crc (l : List (BitVec 8)) : BitVec 32 := ~~~ (crcS (~~~ 0#32) l)

theorem tb_xor (a b : BitVec 32) : tb (a ^^^ b) = tb a ^^^ tb b := by
  unfold tb
  rw [BitVec.ushiftRight_xor_distrib, BitVec.getLsbD_xor]
  generalize a >>> 1 = p
  generalize b >>> 1 = q
  generalize (0xedb88320#32) = k
  cases a.getLsbD 0 <;> cases b.getLsbD 0 <;> simp
  · ac_rfl
  · ac_rfl
  · rw [show p ^^^ k ^^^ (q ^^^ k) = (p ^^^ q) ^^^ (k ^^^ k) by ac_rfl]; simp
theorem tb_zero : tb 0#32 = 0#32 := by decide
theorem tb_eq_zero {s : BitVec 32} (h : tb s = 0#32) : s = 0#32 := by
  have h31 : (tb s).getLsbD 31 = s.getLsbD 0 := by
    unfold tb
    rw [BitVec.getLsbD_xor, BitVec.getLsbD_ushiftRight]
    have : s.getLsbD (1 + 31) = false := BitVec.getLsbD_of_ge _ _ (by omega)
    rw [this]
    cases s.getLsbD 0 <;> decide
  have h0 : s.getLsbD 0 = false := by rw [← h31, h]; decide
  unfold tb at h
  rw [h0] at h
  simp only [Bool.false_eq_true, if_false, BitVec.xor_zero] at h
  apply BitVec.eq_of_getLsbD_eq
  intro i hi
  rcases i with _ | i
  · rw [h0]; simp
  · have := congrArg (fun x => x.getLsbD i) h
    simp only [BitVec.getLsbD_ushiftRight] at this
    rw [Nat.add_comm i 1, this]; simp
theorem tb_inj {a b : BitVec 32} (h : tb a = tb b) : a = b := by
  have h2 : tb (a ^^^ b) = 0#32 := by rw [tb_xor, h, BitVec.xor_self]
  have h3 := tb_eq_zero h2
  exact BitVec.xor_eq_zero_iff.1 h3
theorem tn_xor (n : Nat) : ∀ a b : BitVec 32, tn n (a ^^^ b) = tn n a ^^^ tn n b := by
  induction n with
  | zero => intros; rfl
  | succ n ih => intro a b; simp only [tn, tb_xor, ih]
theorem tn_zero (n : Nat) : tn n 0#32 = 0#32 := by
  induction n with
  | zero => rfl
  | succ n ih => simp only [tn, tb_zero, ih]
theorem tn_inj (n : Nat) : ∀ {a b : BitVec 32}, tn n a = tn n b → a = b := by
  induction n with
  | zero => intro a b h; exact h
  | succ n ih => intro a b h; exact tb_inj (ih h)
theorem tn_add (m : Nat) : ∀ (n : Nat) (s : BitVec 32), tn (m + n) s = tn n (tn m s) := by
  induction m with
  | zero => intro n s; rw [Nat.zero_add]; rfl
  | succ m ih => intro n s; rw [Nat.succ_add]; exact ih n (tb s)
theorem by8_xor (s t : BitVec 32) (a b : BitVec 8) : by8 (s ^^^ t) (a ^^^ b) = by8 s a ^^^ by8 t b := by
  unfold by8
  rw [← tn_xor, BitVec.setWidth_xor]
  congr 1
  ac_rfl
/-- bytes, place by place -/
def xr (a b : List (BitVec 8)) : List (BitVec 8) := List.zipWith (· ^^^ ·) a b
theorem crcS_xor : ∀ (a b : List (BitVec 8)) (s t : BitVec 32), a.length = b.length → crcS (s ^^^ t) (xr a b) = crcS s a ^^^ crcS t b := by
  intro a
  induction a with
  | nil => intro b s t h; cases b with
    | nil => rfl
    | cons _ _ => simp at h
  | cons x a ih => intro b s t h; cases b with
    | nil => simp at h
    | cons y b =>
      simp only [crcS, xr, List.zipWith_cons_cons, List.foldl_cons, by8_xor] at *
      exact ih b _ _ (by simpa using h)
theorem crc_joins (a b c : List (BitVec 8)) (h1 : a.length = b.length) (h2 : a.length = c.length) : crc (xr (xr a b) c) = crc a ^^^ crc b ^^^ crc c := by
  have e : (~~~ 0#32) = ((~~~ 0#32) ^^^ (~~~ 0#32)) ^^^ (~~~ 0#32) := by decide
  unfold crc
  conv => lhs; rw [e]
  rw [crcS_xor _ _ _ _ (by simp [xr]; omega), crcS_xor _ _ _ _ h1]
  generalize crcS (~~~ 0#32) a = p
  generalize crcS (~~~ 0#32) b = q
  generalize crcS (~~~ 0#32) c = r
  apply BitVec.eq_of_getLsbD_eq
  intro i hi
  simp [hi]

/-- the register over bits, one by one -/
def fd (s : BitVec 32) (l : List Bool) : BitVec 32 := l.foldl (fun s b => tb (s ^^^ (if b then 1#32 else 0#32))) s
def bits8 (b : BitVec 8) : List Bool := (List.range 8).map fun i => b.getLsbD i
/-- the number that bits are, the lowest first -/
def wd : List Bool → BitVec 32
  | [] => 0#32
  | b :: l => (if b then 1#32 else 0#32) ^^^ (wd l <<< 1)
theorem tb_low (s : BitVec 32) (v : BitVec 32) (h : v.getLsbD 31 = false) : tb (s ^^^ (v <<< 1)) = tb s ^^^ v := by
  rw [tb_xor]
  congr 1
  unfold tb
  have h0 : (v <<< 1).getLsbD 0 = false := by simp
  rw [h0]
  simp only [Bool.false_eq_true, if_false, BitVec.xor_zero]
  apply BitVec.eq_of_getLsbD_eq
  intro i hi
  simp only [BitVec.getLsbD_ushiftRight, BitVec.getLsbD_shiftLeft]
  by_cases h1 : i = 31
  · subst h1; rw [h]; simp
  · have : 1 + i < 32 := by omega
    simp [this]
theorem wd_high : ∀ (l : List Bool) (i : Nat), l.length ≤ i → (wd l).getLsbD i = false := by
  intro l
  induction l with
  | nil => intro i _; simp [wd]
  | cons b l ih =>
    intro i hi
    simp only [List.length_cons] at hi
    rcases i with _ | i
    · omega
    · unfold wd
      rw [BitVec.getLsbD_xor, BitVec.getLsbD_shiftLeft]
      have := ih i (by omega)
      simp [this]
      cases b <;> simp
theorem fd_wd : ∀ (l : List Bool) (s : BitVec 32), l.length ≤ 32 → fd s l = tn l.length (s ^^^ wd l) := by
  intro l
  induction l with
  | nil => intro s _; simp [fd, wd, tn]
  | cons b l ih =>
    intro s h
    simp only [List.length_cons] at h
    have hs : fd s (b :: l) = fd (tb (s ^^^ (if b then 1#32 else 0#32))) l := rfl
    rw [hs, ih _ (by omega), List.length_cons, tn, wd, ← BitVec.xor_assoc, tb_low _ _ (wd_high l 31 (by omega))]
theorem wd_get : ∀ (l : List Bool) (i : Nat), i < l.length → i < 32 → (wd l).getLsbD i = l.getD i false := by
  intro l
  induction l with
  | nil => intro i h; simp at h
  | cons b l ih =>
    intro i h h32
    simp only [List.length_cons] at h
    unfold wd
    rw [BitVec.getLsbD_xor, BitVec.getLsbD_shiftLeft]
    rcases i with _ | i
    · cases b <;> simp
    · have := ih i (by omega) (by omega)
      simp only [Nat.add_sub_cancel, this, List.getD_cons_succ]
      have hb : (if b = true then 1#32 else 0#32).getLsbD (i + 1) = false := by cases b <;> simp
      rw [hb]
      simp
      omega
theorem wd_zero {l : List Bool} (hl : l.length ≤ 32) (h : wd l = 0#32) : ∀ i, l.getD i false = false := by
  intro i
  by_cases hi : i < l.length
  · rw [← wd_get l i hi (by omega), h]; simp
  · rw [List.getD_eq_getElem?_getD, List.getElem?_eq_none (by omega)]; rfl
theorem fd_append (s : BitVec 32) (a b : List Bool) : fd s (a ++ b) = fd (fd s a) b := by simp [fd]
theorem fd_false (n : Nat) : ∀ s, fd s (List.replicate n false) = tn n s := by
  induction n with
  | zero => intro s; rfl
  | succ n ih => intro s; rw [List.replicate_succ]; show fd (tb (s ^^^ 0#32)) _ = _; rw [ih, BitVec.xor_zero]; rfl
theorem by8_fd (s : BitVec 32) (b : BitVec 8) : by8 s b = fd s (bits8 b) := by
  rw [fd_wd _ _ (by simp [bits8])]
  unfold by8
  rw [show (bits8 b).length = 8 by simp [bits8]]
  congr 2
  apply BitVec.eq_of_getLsbD_eq
  intro i hi
  by_cases h8 : i < 8
  · rw [wd_get _ _ (by simp [bits8, h8]) hi]
    simp [bits8, h8, hi]
  · rw [wd_high _ _ (by simp [bits8]; omega), BitVec.getLsbD_setWidth, BitVec.getLsbD_of_ge b i (by omega)]
    simp
def allBits (l : List (BitVec 8)) : List Bool := l.flatMap bits8
theorem crcS_fd : ∀ (l : List (BitVec 8)) (s : BitVec 32), crcS s l = fd s (allBits l) := by
  intro l
  induction l with
  | nil => intro s; rfl
  | cons b l ih =>
    intro s
    show crcS (by8 s b) l = fd s (bits8 b ++ allBits l)
    rw [ih, by8_fd, fd_append]
/-- an error whose bits lie within 32: it's seen unless it's none -/
theorem burst_zero (p q : Nat) (m : List Bool) (hm : m.length ≤ 32) : fd 0#32 (List.replicate p false ++ m ++ List.replicate q false) = 0#32 ↔ ∀ i, m.getD i false = false := by
  rw [fd_append, fd_append, fd_false, fd_false, tn_zero, fd_wd m _ hm]
  constructor
  · intro h
    have h1 := tn_inj q (h.trans (tn_zero q).symm)
    have h2 := tn_inj m.length (h1.trans (tn_zero m.length).symm)
    exact wd_zero hm (by simpa using h2)
  · intro h
    have : wd m = 0#32 := by
      apply BitVec.eq_of_getLsbD_eq
      intro i hi
      by_cases hl : i < m.length
      · rw [wd_get m i hl hi, h]; simp
      · rw [wd_high m i (by omega)]; simp
    rw [this, BitVec.xor_zero, tn_zero, tn_zero]
/-- the four bytes of a sum, the lowest first -/
def le4 (c : BitVec 32) : List (BitVec 8) := [c.setWidth 8, (c >>> 8).setWidth 8, (c >>> 16).setWidth 8, (c >>> 24).setWidth 8]
theorem allBits_le4 (c : BitVec 32) : allBits (le4 c) = (List.range 32).map fun i => c.getLsbD i := by
  simp [allBits, le4, bits8, List.range_succ]
theorem crcS_le4 (s c : BitVec 32) : crcS s (le4 c) = tn 32 (s ^^^ c) := by
  rw [crcS_fd, allBits_le4, fd_wd _ _ (by simp)]
  rw [show (List.map (fun i => c.getLsbD i) (List.range 32)).length = 32 by simp]
  congr 2
  apply BitVec.eq_of_getLsbD_eq
  intro i hi
  rw [wd_get _ _ (by simpa using hi) hi]
  simp [hi]
theorem crc_behind (b : List (BitVec 8)) : crc (b ++ le4 (crc b)) = 0x2144df1c#32 := by
  have h : crcS (~~~ 0#32) (b ++ le4 (crc b)) = tn 32 (~~~ 0#32) := by
    have : crcS (~~~ 0#32) (b ++ le4 (crc b)) = crcS (crcS (~~~ 0#32) b) (le4 (crc b)) := by simp [crcS]
    rw [this, crcS_le4]
    unfold crc
    congr 1
    generalize crcS (~~~ 0#32) b = s
    apply BitVec.eq_of_getLsbD_eq
    intro i hi
    rw [BitVec.getLsbD_xor, BitVec.getLsbD_not, BitVec.getLsbD_not]
    simp [hi]
  unfold crc at h ⊢
  rw [h]
  decide
theorem crc_fits (b : List (BitVec 8)) (c : BitVec 32) : crc (b ++ le4 c) = 0x2144df1c#32 ↔ c = crc b := by
  constructor
  · intro h
    have h2 := h.trans (crc_behind b).symm
    unfold crc at h2
    have e := fun x : BitVec 32 => show crcS (~~~ 0#32) (b ++ le4 x) = tn 32 (crcS (~~~ 0#32) b ^^^ x) by rw [← crcS_le4]; simp [crcS]
    rw [e, e] at h2
    have h3 := tn_inj 32 (BitVec.not_inj.1 h2)
    exact (BitVec.xor_right_inj _).1 h3
  · rintro rfl; exact crc_behind b
end Wells
