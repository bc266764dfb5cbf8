/- PlayMath -/
import Derived.Lib.Bytes
import Derived.Test.YtnknjeipfjdjoaaBScanRises07
import Derived.Test.YtnknjeipfjdjoaaBScanRises09
import Derived.Test.YtnknjeipfjdjoaaBScanRises18
import Derived.Test.YtnknjeipfjdjoaaBScanRises29
set_option maxRecDepth 20000
set_option linter.unusedSimpArgs false
set_option linter.unusedVariables false
namespace Wells
open Go Go.RowKit
structure PEnt (P : Par) (i : Nat) (e : Ent) : Prop where
  name : ∃ x : Nat, x < 26 ∧ e.name = [BitVec.ofNat 8 (97 + 2 * i), BitVec.ofNat 8 (97 + x)]
  obj : 3 * (i : Int) ≤ e.obj ∧ e.obj ≤ 3 * (i : Int) + 2
  len : 0 ≤ e.len ∧ e.len ≤ P.K * P.S * 4
  tries : ∀ z ∈ e.tries, 0 ≤ z ∧ z ≤ 15
  count : (e.tries.length : Int) = countP P e.len
structure PlayM (m : Mani) : Prop where
  seq : 1 ≤ m.seq ∧ m.seq ≤ 1000
  next : 20 ≤ m.next ∧ m.next ≤ 119
  P : 1 ≤ m.P.K ∧ m.P.K ≤ 6 ∧ 1 ≤ m.P.H ∧ m.P.H ≤ 3 ∧ 1 ≤ m.P.S ∧ m.P.S ≤ 9
  extra : 0 ≤ m.extra ∧ m.extra ≤ 16
  dlen : m.drives.length ≤ 8
  drives : StrictUp m.drives
  drv : ∀ z ∈ m.drives, 0 ≤ z ∧ z ≤ 56
  olen : m.objs.length ≤ 5
  objs : ∀ i, i < m.objs.length → PEnt m.P i (m.objs.getD i default)
theorem less_first {a b : UInt8} {x y : List UInt8} (h : a < b) : Op.bytesLess (a :: x) (b :: y) = true := by
  simp [Op.bytesLess, h]
theorem strB_toList (l : List Byte) : (strB l).toList = l.map UInt8.ofBitVec := by
  rw [ByteArray.toList_eq]
  unfold strB
  simp
theorem PEnt.less {P : Par} {i : Nat} {e f : Ent} (he : PEnt P i e) (hf : PEnt P (i + 1) f) (hi : i ≤ 10) : lessS e.name f.name = true := by
  obtain ⟨x, _, hx⟩ := he.name
  obtain ⟨y, _, hy⟩ := hf.name
  unfold lessS
  rw [hx, hy, strB_toList, strB_toList]
  simp only [List.map_cons]
  apply less_first
  rw [UInt8.lt_iff_toNat_lt]
  show (BitVec.ofNat 8 (97 + 2 * i)).toNat < (BitVec.ofNat 8 (97 + 2 * (i + 1))).toNat
  rw [BitVec.toNat_ofNat, BitVec.toNat_ofNat]
  omega
theorem PEnt.nameOk {P : Par} {i : Nat} {e : Ent} (he : PEnt P i e) (hi : i ≤ 10) : nameOk e.name = true := by
  obtain ⟨x, hx0, hx⟩ := he.name
  rw [hx]
  unfold Wells.nameOk
  rw [Bool.and_eq_true]
  refine ⟨?_, by simp⟩
  simp only [List.all_cons, List.all_nil, Bool.and_true, Bool.and_eq_true]
  refine ⟨?_, ?_⟩ <;> (unfold nameC; rw [BitVec.toNat_ofNat]; refine decide_eq_true ?_; omega)
theorem PlayM.parOk {m : Mani} (h : PlayM m) : m.P.Ok := by
  obtain ⟨h1, h2, h3, h4, h5, h6⟩ := h.P
  unfold Par.Ok
  omega
theorem PlayM.may {m : Mani} (h : PlayM m) : m.may = true := by
  have hP := Par.ok_may h.parOk
  have h1 := h.seq; have h2 := h.next; have h3 := h.extra; have h4 := h.olen
  refine p_may ⟨by omega, by omega, hP, h3, h.drives.rise (fun z hz => by have := h.drv z hz; omega), by omega, fun i hi => ?_⟩
  have hs := Par.size_le h.parOk
  unfold Par.size at hs
  have he := h.objs i hi
  obtain ⟨q, hq⟩ : ∃ q, m.P.K * m.P.S = q := ⟨_, rfl⟩
  have hE : entB m (m.objs.getD i default) = true := by
    unfold entB
    rw [he.nameOk (by omega), Bool.true_and]
    have ho := he.obj; have hl := he.len
    rw [hq] at hl hs
    rw [hq, decide_eq_true (by omega), decide_eq_true (by omega), Bool.true_and, Bool.true_and, Bool.and_eq_true]
    refine ⟨?_, decide_eq_true he.count⟩
    unfold triesOk
    rw [List.all_eq_true]
    intro z hz
    exact decide_eq_true (he.tries z hz)
  unfold objStep entAt
  rw [hE, Bool.true_and, Bool.and_eq_true]
  refine ⟨?_, ?_⟩
  · by_cases h0 : i = 0
    · simp [h0]
    · obtain ⟨k, rfl⟩ : ∃ k, i = k + 1 := ⟨i - 1, by omega⟩
      rw [Nat.add_sub_cancel, (h.objs k (by omega)).less he (by omega), Bool.or_true]
  · rw [List.all_eq_true]
    intro y hy
    obtain ⟨j, hj, rfl⟩ := List.getElem_of_mem hy
    have hji : j < i := by have := hj; rw [List.length_take] at this; omega
    have hpj := (h.objs j (by omega)).obj
    rw [List.getD_eq_getElem?_getD, List.getElem?_eq_getElem (by omega)] at hpj
    simp only [Option.getD_some] at hpj
    rw [List.getElem_take]
    have hoi := he.obj
    simp only [Bool.not_eq_true', decide_eq_false_iff_not]
    intro e
    rw [e] at hpj
    omega
theorem PlayM.m64 {m : Mani} (h : PlayM m) : M64 m ∧ ∀ e ∈ m.objs, e.name.length ≤ 1048576 := by
  have h1 := h.seq; have h2 := h.next; have h3 := h.extra
  obtain ⟨k1, k2, k3, k4, k5, k6⟩ := h.P
  have hs := Par.size_le h.parOk
  unfold Par.size at hs
  obtain ⟨q, hq⟩ : ∃ q, m.P.K * m.P.S = q := ⟨_, rfl⟩
  rw [hq] at hs
  have hob : ∀ e ∈ m.objs, ∃ i, i < m.objs.length ∧ PEnt m.P i e := fun e he => by
    obtain ⟨i, hi, rfl⟩ := List.getElem_of_mem he
    have := h.objs i hi
    rw [List.getD_eq_getElem?_getD, List.getElem?_eq_getElem hi] at this
    exact ⟨i, hi, this⟩
  refine ⟨⟨by unfold i64; omega, by unfold i64; omega, by unfold i64; omega, by unfold i64; omega, by unfold i64; omega, by unfold i64; omega, fun z hz => ?_, fun e he => ?_⟩, fun e he => ?_⟩
  · have := h.drv z hz; unfold i64; omega
  · obtain ⟨i, hi, hp⟩ := hob e he
    have ho := hp.obj; have hl := hp.len; have h4 := h.olen
    rw [hq] at hl
    refine ⟨by unfold i64; omega, by unfold i64; omega, fun z hz => ?_⟩
    have := hp.tries z hz; unfold i64; omega
  · obtain ⟨i, hi, hp⟩ := hob e he
    obtain ⟨x, _, hx⟩ := hp.name
    rw [hx]
    simp
end Wells

