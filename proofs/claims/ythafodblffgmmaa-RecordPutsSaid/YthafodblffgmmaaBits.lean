/- Bits of numbers: the walk's spelling against BitVec. No conditions. -/
import Derived.WalkKit
import Derived.Laws.BitsAllLaws
import Derived.Test.YthafodblffgmmaaWords
import Derived.Test.YthafodblffgmmaaCrcMath
namespace Wells
open Go Go.RowKit
theorem x32 (a b : BitVec 32) : bits .xor .u32 (a.toNat : Int) (b.toNat : Int) = ((a ^^^ b).toNat : Int) := by
  rw [u32_xor_nat _ _ a.isLt b.isLt, BitVec.toNat_xor]
theorem x32b (a : BitVec 32) (b : BitVec 8) : bits .xor .u32 (a.toNat : Int) (b.toNat : Int) = ((a ^^^ b.setWidth 32).toNat : Int) := by
  have := x32 a (b.setWidth 32)
  rw [BitVec.toNat_setWidth, Nat.mod_eq_of_lt (by have := b.isLt; omega)] at this
  exact this
theorem and1 (t : BitVec 32) : bits .and .u32 (t.toNat : Int) 1 = (t.toNat % 2 : Int) := by
  have := u32_and_nat t.toNat 1 t.isLt (by omega)
  rw [Nat.and_one_is_mod] at this
  simpa using this
theorem lsb_of (t : BitVec 32) : t.getLsbD 0 = decide (t.toNat % 2 = 1) := by
  rw [BitVec.getLsbD, Nat.testBit_zero]
theorem tb_one (t : BitVec 32) (h : (bits .and .u32 (t.toNat : Int) 1 == 1) = true) : bits .xor .u32 ((t.toNat : Int) / 2) 3988292384 = ((tb t).toNat : Int) := by
  rw [and1] at h
  have h1 : t.getLsbD 0 = true := by rw [lsb_of]; simp at h ⊢; omega
  have e : (t.toNat : Int) / (2 : Int) = ((t >>> 1).toNat : Int) := by rw [BitVec.toNat_ushiftRight, Nat.shiftRight_eq_div_pow]; omega
  have e2 : (3988292384 : Int) = ((0xedb88320#32).toNat : Int) := rfl
  rw [e, e2, x32]
  unfold tb
  rw [h1]; rfl
theorem tb_nought (t : BitVec 32) (h : (bits .and .u32 (t.toNat : Int) 1 == 1) = false) : ((t.toNat : Int) / 2) = ((tb t).toNat : Int) := by
  rw [and1] at h
  have h1 : t.getLsbD 0 = false := by rw [lsb_of]; simp at h ⊢; omega
  have e : (t.toNat : Int) / (2 : Int) = ((t >>> 1).toNat : Int) := by rw [BitVec.toNat_ushiftRight, Nat.shiftRight_eq_div_pow]; omega
  rw [e]
  unfold tb
  rw [h1]; simp
theorem tn_succ (j : Nat) (s : BitVec 32) : tn (j + 1) s = tb (tn j s) := tn_add j 1 s
theorem not32 (s : BitVec 32) : ((~~~ s).toNat : Int) = 4294967295 - (s.toNat : Int) := by
  rw [BitVec.toNat_not]
  have := s.isLt
  omega
theorem crcS_take (s : BitVec 32) (l : List Byte) (k : Nat) (h : k < l.length) : crcS s (l.take (k + 1)) = tn 8 (crcS s (l.take k) ^^^ (l.getD k 0).setWidth 32) := by
  rw [List.take_succ_eq_append_getElem h]
  unfold crcS
  rw [List.foldl_append]
  simp [by8, h]
end Wells
