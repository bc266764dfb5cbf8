/- Num -/
import Derived.Test.YtnknjeipfjdjoaaGreatDoorBScanKept01
import Derived.Test.YtnknjeipfjdjoaaGreatDoorBScanKept45
set_option maxRecDepth 20000
set_option linter.unusedSimpArgs false
set_option linter.unusedVariables false
namespace Wells
open Go Go.RowKit
def numAt (l : List Int) (k : Int) : Int := if 0 ≤ k ∧ k < (l.length : Int) then l.getD k.toNat 0 else 0
theorem numAt_64 {l : List Int} (h : ∀ z ∈ l, -9223372036854775808 ≤ z ∧ z ≤ 9223372036854775807) (k : Int) : -9223372036854775808 ≤ numAt l k ∧ numAt l k ≤ 9223372036854775807 := by
 unfold numAt
 split
 ·rename_i hk
  have : k.toNat < l.length := by omega
  rw [List.getD_eq_getElem?_getD, List.getElem?_eq_getElem this]
  exact h _ (List.getElem_mem _)
 ·omega
end Wells
namespace Go.Proofs.YtnknjeipfjdjoaaGreatDoor
open Go.RowKit Wells
theorem num_any (B : Nat) (A : Option Addr) (n c : Nat) (l : List Int) (k r : Int) (w : World) (h : Sl w B 1 A n (l.map (Value.int .i64))) (hn : n ≤ 9223372036854775807) (hk : 0 ≤ k ∧ k ≤ 9223372036854775807) (hr : numAt l k = r) :
  Calls Tryz.prog 28 #[.slice A n c, .int .i64 k] w fun e w' => e = .returned (.int .i64 r) ∧ w = w' := by
 have hl : l.length = n := by have := h.len; simpa using this
 obtain ⟨j, rfl⟩ := Int.eq_ofNat_of_zero_le hk.1
 by_cases hj : j < n
 ·obtain ⟨b, o, rfl, _, hc⟩ := h.get hj (by rw [List.getElem?_map, List.getElem?_eq_getElem (show j < l.length by omega)]; rfl)
  have hr2 : l[j]'(by omega) = r := by
   rw [← hr]
   unfold numAt
   rw [if_pos (by omega), Int.toNat_natCast, List.getD_eq_getElem?_getD, List.getElem?_eq_getElem (show j < l.length by omega)]
   rfl
  rw [hr2] at hc
  clear hr hr2 hl
  go_enter Tryz.func28, Tryz.ntmps28
  go_wp2_with fail
  go_ret
  exact ⟨rfl, rfl⟩
 ·have hr2 : 0 = r := by
   rw [← hr]
   unfold numAt
   rw [if_neg (by omega)]
  have HR := hid hr2
  clear hr hr2 hl
  go_enter Tryz.func28, Tryz.ntmps28
  go_wp2_with fail
  go_ret
  exact ⟨ret_int HR.out, rfl⟩
end Go.Proofs.YtnknjeipfjdjoaaGreatDoor
