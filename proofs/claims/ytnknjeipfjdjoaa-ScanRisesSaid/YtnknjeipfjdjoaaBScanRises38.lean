/- SpoilMath -/
import Derived.Test.YtnknjeipfjdjoaaBScanRises00
import Derived.Test.YtnknjeipfjdjoaaBScanRises12
import Derived.Test.YtnknjeipfjdjoaaBScanRises14
set_option maxRecDepth 20000
set_option linter.unusedSimpArgs false
set_option linter.unusedVariables false
namespace Wells
open Go Go.RowKit
theorem spoilL_get (x : List Byte) (a m : Nat) : ∀ (k i : Nat), a + k ≤ x.length → (spoilL x a m k).getD i 0 = if a ≤ i ∧ i < a + k then x.getD i 0 ^^^ spoilB m (i - a) else x.getD i 0
  | 0, i, _ => by rw [if_neg (by omega)]; rfl
  | k + 1, i, h => by
    have hl : a + k < (spoilL x a m k).length := by rw [spoilL_len]; omega
    rw [show spoilL x a m (k + 1) = (spoilL x a m k).set (a + k) ((spoilL x a m k).getD (a + k) 0 ^^^ spoilB m k) from rfl, getD_setL hl]
    by_cases hi : i = a + k
    · subst hi
      rw [if_pos rfl, if_pos (by omega), spoilL_get x a m k (a + k) (by omega), if_neg (by omega), show a + k - a = k by omega]
    · rw [if_neg hi, spoilL_get x a m k i (by omega)]
      by_cases hc : a ≤ i ∧ i < a + k
      · rw [if_pos hc, if_pos (by omega)]
      · rw [if_neg hc, if_neg (by omega)]
theorem errB_spoil {a m i : Nat} : errB (8 * a) (BitVec.ofNat 32 m) 32 i = if a ≤ i ∧ i < a + 4 then spoilB m (i - a) else 0#8 := by
  apply BitVec.eq_of_getLsbD_eq
  intro r hr
  rw [errB_get _ _ _ _ _ hr]
  by_cases hc : a ≤ i ∧ i < a + 4
  · rw [if_pos hc, decide_eq_true (by omega)]
    unfold spoilB
    rw [BitVec.getLsbD_ofNat, BitVec.getLsbD_ofNat, decide_eq_true (show 8 * i + r - 8 * a < 32 by omega), decide_eq_true hr, Nat.testBit_div_two_pow]
    simp only [Bool.true_and]
    congr 1
    omega
  · rw [if_neg hc, decide_eq_false (by omega)]
    simp
theorem spoil_xr {x : List Byte} {a m : Nat} (hl : x.length = 64) (ha : a ≤ 60) : spoilL x a m 4 = xr x (errL 64 (8 * a) (BitVec.ofNat 32 m) 32) := by
  apply List.ext_getElem?
  intro i
  unfold xr
  rw [List.getElem?_zipWith]
  by_cases hi : i < 64
  · have h1 := spoilL_get x a m 4 i (by omega)
    have h2 := errL_getD 64 (8 * a) (BitVec.ofNat 32 m) 32 i
    rw [if_pos hi, errB_spoil] at h2
    rw [List.getD_eq_getElem?_getD, List.getElem?_eq_getElem (by rw [spoilL_len]; omega), List.getD_eq_getElem?_getD, List.getElem?_eq_getElem (show i < x.length by omega)] at h1
    rw [List.getD_eq_getElem?_getD, List.getElem?_eq_getElem (show i < (errL 64 (8 * a) (BitVec.ofNat 32 m) 32).length by rw [errL_length]; exact hi)] at h2
    simp only [Option.getD_some] at h1 h2
    rw [List.getElem?_eq_getElem (by rw [spoilL_len]; omega), List.getElem?_eq_getElem (show i < x.length by omega), List.getElem?_eq_getElem (show i < (errL 64 (8 * a) (BitVec.ofNat 32 m) 32).length by rw [errL_length]; exact hi)]
    dsimp only
    rw [h1, h2]
    split <;> simp
  · rw [List.getElem?_eq_none (by rw [spoilL_len]; omega), List.getElem?_eq_none (show x.length ≤ i by omega)]
/-- a cell that is spoilt is none -/
theorem spoil_none {x : List Byte} {a m : Nat} (ha : a ≤ 60) (hm : m % 2 = 1) (hx : IsCell x) : ¬ IsCell (spoilL x a m 4) := by
  have hl := ((isCell_iff x).1 hx).1
  rw [spoil_xr hl ha, cell_burst hx _ _ (by omega), turnN_zero]
  intro h
  have := h 0 (by omega) (by omega)
  rw [BitVec.getLsbD_ofNat, Nat.testBit_zero, hm] at this
  simp at this
theorem takeR_cell {x : List Byte} {r : Rec} (h : takeR x = some r) : IsCell x := by
  rw [← take_isSome]
  unfold takeR at h
  split at h
  · cases h
  · rename_i h1; rw [h1]; rfl
theorem spoil_take {x : List Byte} {a m : Nat} (ha : a ≤ 60) (hm : m % 2 = 1) {r : Rec} (h : takeR x = some r) : takeR (spoilL x a m 4) = none := by
  cases h2 : takeR (spoilL x a m 4) with
  | none => rfl
  | some r2 => exact absurd (takeR_cell h2) (spoil_none ha hm (takeR_cell h))
end Wells

