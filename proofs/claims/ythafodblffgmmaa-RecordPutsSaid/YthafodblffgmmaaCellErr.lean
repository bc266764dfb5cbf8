/- Cells of which bits are turned. -/
import Derived.Test.YthafodblffgmmaaCellMath
namespace Wells
theorem xr_zero (b e : BL) (h : b.length = e.length) (hz : ∀ i, e.getD i 0 = 0#8) : xr b e = b := by
  unfold xr
  apply List.ext_getElem?
  intro i
  rw [List.getElem?_zipWith]
  by_cases hi : i < b.length
  · rw [List.getElem?_eq_getElem hi, List.getElem?_eq_getElem (show i < e.length by omega)]
    have := hz i
    rw [List.getD_eq_getElem?_getD, List.getElem?_eq_getElem (show i < e.length by omega)] at this
    simp at this
    simp [this]
  · rw [List.getElem?_eq_none (by omega)]
theorem errL_getD (len bit : Nat) (mask : BitVec 32) (n i : Nat) : (errL len bit mask n).getD i 0 = if i < len then errB bit mask n i else 0#8 := by
  unfold errL
  rw [List.getD_eq_getElem?_getD, List.getElem?_map]
  by_cases h : i < len
  · rw [List.getElem?_range h, if_pos h]; rfl
  · rw [List.getElem?_eq_none (by simpa using h), if_neg h]; rfl
theorem errB_zero {bit : Nat} {mask : BitVec 32} {n j : Nat} (h : ∀ r, r < 8 → errBit bit mask n (8 * j + r) = false) : errB bit mask n j = 0#8 := by
  apply BitVec.eq_of_getLsbD_eq
  intro r hr
  rw [errB_get _ _ _ _ _ hr]
  have := h r hr
  unfold errBit at this
  rw [this]
  simp
theorem cell_burst {b : BL} (hb : IsCell b) (bit : Nat) (mask : BitVec 32) (hbit : bit ≤ 8 * 64) : IsCell (xr b (errL 64 bit mask 32)) ↔ turnN 64 bit mask 32 = 0 := by
  obtain ⟨hl, h3, hk, h63, hc⟩ := (isCell_iff b).1 hb
  constructor
  · intro hb'
    obtain ⟨hl', h3', hk', h63', hc'⟩ := (isCell_iff _).1 hb'
    have e63 : errB bit mask 32 63 = 0#8 := by
      have h1 : (xr b (errL 64 bit mask 32)).getD 63 0 = b.getD 63 0 ^^^ (errL 64 bit mask 32).getD 63 0 := by
        unfold xr
        rw [List.getD_eq_getElem?_getD, List.getElem?_zipWith, List.getElem?_eq_getElem (show 63 < b.length by omega), List.getElem?_eq_getElem (show 63 < (errL 64 bit mask 32).length by rw [errL_length]; omega)]
        simp [List.getD_eq_getElem?_getD, hl, errL_length]
      rw [h1, h63, errL_getD, if_pos (by omega)] at h63'
      have := congrArg (fun x => 0xa5#8 ^^^ x) h63'
      simpa [← BitVec.xor_assoc] using this
    have ht : (xr b (errL 64 bit mask 32)).take 63 = xr (b.take 63) (errL 63 bit mask 32) := by
      unfold xr
      rw [List.take_zipWith]
      congr 1
    rw [ht] at hc'
    have hx : crcS 0#32 (errL 63 bit mask 32) = 0#32 := by
      have h1 := crcS_xor (b.take 63) (errL 63 bit mask 32) (~~~ 0#32) 0#32 (by simp [hl, errL_length])
      unfold crc at hc hc'
      have h2 : crcS (~~~ 0#32) (xr (b.take 63) (errL 63 bit mask 32)) = crcS (~~~ 0#32) (b.take 63) := by
        have := hc'.trans hc.symm
        have := congrArg (fun x => ~~~ x) this
        simpa using this
      rw [BitVec.xor_zero, h2] at h1
      have := congrArg (fun x => crcS (~~~ 0#32) (b.take 63) ^^^ x) h1
      simpa [← BitVec.xor_assoc] using this.symm
    have h0 : turnN 63 bit mask 32 = 0 := by
      by_cases hb63 : bit ≤ 8 * 63
      · exact (crcS_err 63 bit mask hb63).1 hx
      · exact (turnN_zero 63 bit mask 32).2 (fun i _ h => by omega)
    refine (turnN_zero 64 bit mask 32).2 fun i hi hlt => ?_
    by_cases h5 : bit + i < 8 * 63
    · exact (turnN_zero 63 bit mask 32).1 h0 i hi h5
    · have := congrArg (fun x => x.getLsbD (bit + i - 504)) e63
      rw [errB_get _ _ _ _ _ (by omega)] at this
      have e1 : 8 * 63 + (bit + i - 504) - bit = i := by omega
      rw [e1, decide_eq_true (by omega)] at this
      simpa using this
  · intro h0
    rw [xr_zero b _ (by rw [errL_length, hl]) fun j => ?_]
    · exact hb
    · rw [errL_getD]
      split
      · refine errB_zero fun r hr => ?_
        unfold errBit
        by_cases hin : bit ≤ 8 * j + r ∧ 8 * j + r < bit + 32
        · rw [(turnN_zero 64 bit mask 32).1 h0 (8 * j + r - bit) (by omega) (by omega)]
          simp
        · rw [decide_eq_false hin]; rfl
      · rfl
theorem flip_err (k : Nat) (c : BitVec 8) (j : Nat) : errB (8 * k) (c.setWidth 32) 32 j = if j = k then c else 0#8 := by
  apply BitVec.eq_of_getLsbD_eq
  intro r hr
  rw [errB_get _ _ _ _ _ hr]
  by_cases hjk : j = k
  · subst hjk
    rw [if_pos rfl, decide_eq_true (by omega), show 8 * j + r - 8 * j = r by omega, BitVec.getLsbD_setWidth, decide_eq_true (by omega)]
    simp
  · rw [if_neg hjk]
    by_cases hin : 8 * k ≤ 8 * j + r ∧ 8 * j + r < 8 * k + 32
    · rw [decide_eq_true hin, BitVec.getLsbD_setWidth, BitVec.getLsbD_of_ge c (8 * j + r - 8 * k) (by omega)]
      simp
    · rw [decide_eq_false hin]; simp
theorem flip_xr {b : BL} (hl : b.length = 64) (k : Nat) (c : BitVec 8) (hk : k < 64) : xr b (errL 64 (8 * k) (c.setWidth 32) 32) = b.set k (b.getD k 0 ^^^ c) := by
  unfold xr errL
  apply List.ext_getElem?
  intro i
  rw [List.getElem?_zipWith, List.getElem?_map, List.getElem?_set]
  by_cases hi : i < 64
  · rw [List.getElem?_range hi, List.getElem?_eq_getElem (by omega)]
    simp only [Option.map_some, flip_err]
    by_cases hik : k = i
    · subst hik; simp [hl, hk, List.getD_eq_getElem?_getD]
    · rw [if_neg hik, if_neg (fun h => hik h.symm)]; simp
  · rw [List.getElem?_eq_none (by omega), if_neg (by omega)]
theorem cell_flip {b : BL} (hb : IsCell b) (k : Nat) (c : BitVec 8) (hk : k < 64) : IsCell (b.set k (b.getD k 0 ^^^ c)) ↔ c = 0#8 := by
  have hl := ((isCell_iff b).1 hb).1
  rw [← flip_xr hl k c hk, cell_burst hb _ _ (by omega), turnN_zero]
  constructor
  · intro h
    apply BitVec.eq_of_getLsbD_eq
    intro r hr
    have := h r (by omega) (by omega)
    rw [BitVec.getLsbD_setWidth, decide_eq_true (by omega)] at this
    simpa using this
  · rintro rfl i hi _
    simp
end Wells
