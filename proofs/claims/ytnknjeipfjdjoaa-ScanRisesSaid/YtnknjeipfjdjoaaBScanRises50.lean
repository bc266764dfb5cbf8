/- Alike -/
import Derived.Test.YtnknjeipfjdjoaaBScanRises03
import Derived.Test.YtnknjeipfjdjoaaBScanRises10
set_option maxRecDepth 20000
set_option linter.unusedSimpArgs false
set_option linter.unusedVariables false
namespace Go.Proofs.Ytnknjeipfjdjoaa
open Go.RowKit Wells
theorem take_eq_stepL (l l' : List (List Byte)) (k : Nat) (h : k < l.length) (h' : k < l'.length) (ht : l.take k = l'.take k) (hx : l.getD k [] = l'.getD k []) : l.take (k + 1) = l'.take (k + 1) := by
  rw [List.take_succ_eq_append_getElem h, List.take_succ_eq_append_getElem h', ht]
  simp [h, h'] at hx
  rw [hx]
end Go.Proofs.Ytnknjeipfjdjoaa

