/- PlayRec -/
import Derived.Deep.DeepCutAuto
import Derived.Deep.CutBlock
import Derived.BigGuardPart
import Derived.Test.YtbpimfhachbcdaaDoorBPageNewest00
import Derived.Test.YtbpimfhachbcdaaDoorBPageNewest02
import Derived.Test.YtbpimfhachbcdaaDoorBPageNewest06
import Derived.Test.YtbpimfhachbcdaaDoorBPageNewest16
import Derived.Test.YtbpimfhachbcdaaDoorBPageNewest22
import Derived.Test.YtbpimfhachbcdaaDoorBPageNewest28
import Derived.Test.YtbpimfhachbcdaaDoorBPageNewest34
set_option maxRecDepth 20000
set_option linter.unusedSimpArgs false
set_option linter.unusedVariables false
set_option linter.unusedSectionVars false
namespace Wells
open Go Go.RowKit
def ZR : List Value := [.int .i64 0, .int .i64 0, .int .i64 0, .int .i64 0, .int .i64 0, .int .i64 0, .int .u32 0, .slice none 0 0]
section
variable {w w0 : World} {g : Nat}
end
end Wells
namespace Go.Proofs.YtbpimfhachbcdaaDoor
open Go.RowKit Wells
/-- the record under way -/
structure PQ (w0 w : World) (g8 : Nat) (mc : List Value) (q : Rec) (A : Option Addr) (nr c : Nat) : Prop where
  m : Row w w0.heap.size 27 mc
  z : Row w (w0.heap.size + 1) 64 ZR
  r : Row w g8 64 (RecCells q A nr c)
  d : OB w0.heap.size w (.slice A nr c) q.D
  be : Below w0.heap.size w0 w
  ge : w0.heap.size ≤ g8
  ne : w0.heap.size + 1 ≠ g8
  may : q.may = true
  len : q.D.length = nr
section
variable {w0 w w' : World} {g8 nr c : Nat} {mc : List Value} {q q' : Rec} {A : Option Addr}
theorem PQ.below (h : PQ w0 w g8 mc q A nr c) (hb : Below w.heap.size w w') : PQ w0 w' g8 mc q A nr c :=
  ⟨h.m.below hb h.m.lt, h.z.below hb h.z.lt, h.r.below hb h.r.lt, h.d.below hb, h.be.trans (hb.mono h.be.size), h.ge, h.ne, h.may, h.len⟩
end
end Go.Proofs.YtbpimfhachbcdaaDoor

