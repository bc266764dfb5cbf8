/- Vals of bytes: n values of so many bytes. -/
import Derived.Test.YtmefbbpcfphciaaDoorPeelS
namespace Wells
open Go Go.RowKit
def valAt (b : List Byte) (size i : Nat) : List Byte := (List.range size).map fun k => b.getD (i * size + k) 0
def valsP (b : List Byte) (n size : Nat) : List (List Byte) := (List.range n).map fun i => valAt b size i
theorem valAt_len (b : List Byte) (size i : Nat) : (valAt b size i).length = size := by unfold valAt; simp
theorem valsP_len (b : List Byte) (n size : Nat) : (valsP b n size).length = n := by unfold valsP; simp
theorem valsP_get (b : List Byte) (n size i : Nat) (h : i < n) : (valsP b n size).getD i [] = valAt b size i := by
  unfold valsP
  rw [List.getD_eq_getElem?_getD, List.getElem?_map, List.getElem?_range h]
  rfl
theorem valsP_succ (b : List Byte) (n size : Nat) : valsP b (n + 1) size = valsP b n size ++ [valAt b size n] := by
  unfold valsP; rw [List.range_succ, List.map_append]; rfl
def valTo (b : List Byte) (size i k : Nat) : List Byte := (valAt b size i).take k ++ List.replicate (size - k) 0#8
theorem valTo_zero (b : List Byte) (size i : Nat) : valTo b size i 0 = List.replicate size 0#8 := by unfold valTo; simp
theorem valTo_all (b : List Byte) (size i : Nat) : valTo b size i size = valAt b size i := by
  unfold valTo
  rw [List.take_of_length_le (by rw [valAt_len]; exact Nat.le_refl _)]
  simp
theorem valTo_len (b : List Byte) (size i k : Nat) (h : k ≤ size) : (valTo b size i k).length = size := by unfold valTo; simp [valAt_len]; omega
theorem valTo_set (b : List Byte) {size i k : Nat} (h : k < size) : (valTo b size i k).set k (b.getD (i * size + k) 0) = valTo b size i (k + 1) := by
  have hx : (valAt b size i)[k]? = some (b.getD (i * size + k) 0) := by
    unfold valAt
    rw [List.getElem?_map, List.getElem?_range h]; rfl
  unfold valTo
  rw [List.set_append_right _ _ (by simp; omega), List.take_add_one, hx]
  simp only [List.length_take, valAt_len, show min k size = k by omega, Nat.sub_self, Option.toList_some, List.append_assoc]
  congr 1
  rw [show size - k = (size - (k + 1)) + 1 by omega, List.replicate_succ]
  rfl
theorem valTo_skip (b : List Byte) {size i k : Nat} (h : k < size) (hb : b.length ≤ i * size + k) : valTo b size i (k + 1) = valTo b size i k := by
  rw [← valTo_set b h]
  have e : b.getD (i * size + k) 0 = (valTo b size i k).getD k 0 := by
    rw [List.getD_eq_getElem?_getD, List.getElem?_eq_none hb]
    unfold valTo
    rw [List.getD_eq_getElem?_getD, List.getElem?_append_right (by simp; omega), List.getElem?_replicate]
    simp only [List.length_take, valAt_len, show min k size = k by omega, Nat.sub_self]
    rw [if_pos (by omega)]
    rfl
  rw [e, List.getD_eq_getElem?_getD, List.getElem?_eq_getElem (by rw [valTo_len _ _ _ _ (by omega)]; exact h)]
  simp
end Wells
namespace Go.Proofs.YtmefbbpcfphciaaDoor
open Go.RowKit Wells
set_option maxHeartbeats 1000000 in
theorem vals_any (b : List Byte) (B : Nat) (A : Option Addr) (nb cb n size : Nat) (w : World) (h : Sl w B 1 A nb (b.map bv8)) (hB : B ≤ w.heap.size) (hn : n ≤ 1000) (hs : size ≤ 1000) (hnb : nb ≤ 9223372036854775807) :
    Calls Tryd.prog 10 #[.slice A nb cb, .int .i64 (n : Int), .int .i64 (size : Int)] w fun e w' => ∃ A' c' vs, e = .returned (.slice A' n c') ∧ OBs w.heap.size w' (.slice A' n c') vs (valsP b n size) ∧ Below w.heap.size w w' := by
  obtain ⟨i0, hi, hz0, hz1, hz2⟩ := info_parts infoB
  obtain ⟨i1, hi', hz0', hz1', hz2'⟩ := info_parts infoBs
  have HL := hid (show b.length = nb by have := h.len; simpa using this)
  have H := hid h
  clear h
  go_enter Tryd.func10, Tryd.ntmps10
  go_wp2_with fail
  go_loopw [7, 8] (fun v i wr => ∃ (k : Nat) (A1 : Option Addr) (c1 : Nat) (vs : List Value), k ≤ n ∧ i = .int .i64 (k : Int) ∧ v = .slice A1 k c1 ∧ OBs w.heap.size wr (.slice A1 k c1) vs (valsP b k size) ∧ Below w.heap.size w wr) (fun _ i _ => n - (intOf i).toNat)
  case atStart => exact ⟨0, none, 0, [], Nat.zero_le _, rfl, rfl, OBs.nil_ _ _, Below.refl _ _⟩
  case round =>
    obtain ⟨k, A1, c1, vs, hk, rfl, rfl, hob, hbr⟩ := hrel
    have HOB := hid hob
    have HBR := hid hbr
    have hzr := hbr.size
    clear hob hbr
    by_cases hlt : k < n
    · have hlt' : (k : Int) < (n : Int) := by omega
      have hks : (k : Int) * (size : Int) = ((k * size : Nat) : Int) := by omega
      have hksb : k * size ≤ 1000000 := by
        have := Nat.mul_le_mul (show k ≤ 1000 by omega) hs
        omega
      obtain ⟨ks, hkse⟩ : ∃ ks, k * size = ks := ⟨_, rfl⟩
      rw [hkse] at hks hksb
      have HKS := hid hkse
      clear hkse
      obtain ⟨wo, hwo⟩ : ∃ wo, wr = wo := ⟨_, rfl⟩
      rw [hwo] at HOB HBR hzr ⊢
      clear hwo
      go_wp2_with ((at_make; refine wpl_make _ rfl (.tmp 16) (.tmp 16) 24 rfl 5 i0 (.int .u8 0) 1 Tryd.underlying24 hi hz0 hz1 hz2 rfl .i64 .i64 _ _ size size rfl rfl rfl (by omega) (by omega) (by omega) (by omega) ?_; intro w1 r1 b1 s1))
      have R0 : Row w1 wo.heap.size 5 ((valTo b size k 0).map bv8) := by rw [valTo_zero, List.map_replicate]; exact r1
      have HR0 := hid R0
      have HB1 := hid b1
      clear R0 r1 b1
      generalize hg : wo.heap.size = g at *
      have HG := hid hg
      clear hg
      go_loopw [20] (fun i w3 => ∃ j : Nat, j ≤ size ∧ i = .int .i64 (j : Int) ∧ Row w3 g 5 ((valTo b size k j).map bv8) ∧ Below g wo w3) (fun i _ => size - (intOf i).toNat)
      case atStart => exact ⟨0, Nat.zero_le _, rfl, HR0.out, HB1.out⟩
      case round =>
        obtain ⟨j, hj, rfl, hr, hb3⟩ := hrel
        have HB3 := hid hb3
        by_cases hlj : j < size
        · have hfz := hr.frozen j
          obtain ⟨u, hu⟩ : ∃ u, ((valTo b size k j).map bv8)[j]? = some u := ⟨_, List.getElem?_eq_getElem (by rw [List.length_map, valTo_len _ _ _ _ hj]; exact hlj)⟩
          have hcl := hr.cell j
          rw [hu] at hcl
          have hsum : ((ks : Int) + (j : Int)).toNat = ks + j := by omega
          have hsum0 : 0 ≤ (ks : Int) + (j : Int) := by omega
          by_cases hin : ks + j < nb
          · obtain ⟨bb, o, e1, hbb, hc⟩ := ((H.out.below (HBR.out.mono hB)).below (hb3.mono (Nat.le_trans hB hzr))).get hin (u8s_get b (ks + j) (by rw [HL.out]; exact hin))
            subst e1
            have hset := hr.set j (bv8 (b.getD (ks + j) 0))
            rw [← List.map_set, ← HKS.out, valTo_set b hlj] at hset
            have HSET := hid hset
            rw [HKS.out] at HSET
            obtain ⟨x, hx⟩ : ∃ x, b.getD (ks + j) 0 = x := ⟨_, rfl⟩
            rw [hx] at hc HSET
            have HBS := hid (hb3.setCell (p := (⟨g, j, none⟩ : Addr)) (Nat.le_refl g) (bv8 x))
            unfold bv8 at hc HBS HSET
            have hin' : (ks : Int) + (j : Int) < (nb : Int) := by omega
            clear hset hr hu hx hb3
            go_wp2_with fail
            go_roundw
            case rel => exact ⟨j + 1, by omega, by go_num, HSET.out, HBS.out⟩
            case measure => simp [intOf]; omega
          · have hin' : ¬ (ks : Int) + (j : Int) < (nb : Int) := by omega
            rw [← valTo_skip b hlj (by rw [HL.out, HKS.out]; omega)] at hr
            have HR := hid hr
            clear hr hu hb3
            go_wp2_with fail
            go_roundw
            case rel => exact ⟨j + 1, by omega, by go_num, HR.out, HB3.out⟩
            case measure => simp [intOf]; omega
        · obtain rfl : size = j := by omega
          obtain ⟨w3, hw3⟩ : ∃ w3, wr = w3 := ⟨_, rfl⟩
          rw [hw3] at hr HB3 ⊢
          clear hw3 hb3
          rw [valTo_all] at hr
          have hov : OB w.heap.size w3 (.slice (some ⟨g, 0, none⟩) size size) (valAt b size k) := by
            have h9 := Row.own (base := w.heap.size) (size := 1) (n := size) (cap := size) hr hzr (Nat.le_refl _) (by unfold maxLen; omega) (by simp [valAt_len])
            rw [List.take_of_length_le (by simp [valAt_len])] at h9
            unfold OB
            rw [valAt_len]
            exact h9
          have HOV := hid hov
          have hbx : Below w3.heap.size w3 (w3.alloc (.cells #[.slice (some ⟨g, 0, none⟩) size size] 24)) := (Below.refl _ _).alloc (Nat.le_refl _) _
          have hz3 := HB3.out.size
          have HOB3 := hid ((HOB.out.below (HB3.out.mono (Nat.le_of_eq HG.out))).below hbx)
          have HOV3 := hid ((show OB _ _ _ _ from HOV.out).below hbx)
          have how := HOB3.out.own
          rw [valsP_len] at how
          have HOW := hid how
          have hsz : (w3.alloc (.cells #[.slice (some ⟨g, 0, none⟩) size size] 24)).heap.size = w3.heap.size + 1 := by simp
          have hgz : g < w3.heap.size := hr.lt
          have HBX := hid (HBR.out.trans ((HB3.out.mono hzr).trans (hbx.mono (by omega))))
          clear hr hov hbx how
          go_wp2_with (at_builtin; go_must (refine wpl_append rfl (.tmp 43) (.tmp 45) 30 rfl w.heap.size 24 i1 (.slice none 0 0) 1 24 Tryd.underlying30 hi' hz0' hz1' hz2' rfl (by omega) (.slice A1 k c1) k vs rfl HOW.out _ _ 1 1 [.slice (some ⟨g, 0, none⟩) size size] rfl (Sl.fresh _ _ _ _ 1 rfl) (by simp [Value.oneCell']) (k + 1) rfl _ rfl (by omega) (by omega) (by omega) ?_); intro A6 c6 w6 o6 g6 _)
          have hob6 := HOB3.out.push HOV3.out (v' := .slice A6 (k + 1) c6) (by rw [valsP_len]; exact o6) g6
          rw [← valsP_succ] at hob6
          have hb6 := below_own HBX.out HOW.out g6 (Nat.le_refl _) (by omega)
          have HO6 := hid hob6
          have HB6 := hid hb6
          clear hob6 hb6 o6 g6
          go_roundw
          case rel => exact ⟨k + 1, A6, c6, _, by omega, by go_num, rfl, HO6.out, HB6.out⟩
          case measure => simp [intOf]; omega
    · obtain rfl : n = k := by omega
      go_wp2_with fail
      go_ret
      exact ⟨A1, c1, vs, rfl, HOB.out, HBR.out⟩
end Go.Proofs.YtmefbbpcfphciaaDoor
