/- PlayRec Wakes19 -/
import Derived.Deep.DeepCutAuto
import Derived.Deep.CutBlock
import Derived.BigGuardPart
import Derived.Test.YtbpimfhachbcdaaDoorBPageCells00
import Derived.Test.YtbpimfhachbcdaaDoorBPageCells01
import Derived.Test.YtbpimfhachbcdaaDoorBPageCells07
import Derived.Test.YtbpimfhachbcdaaDoorBPageCells16
import Derived.Test.YtbpimfhachbcdaaDoorBPageCells22
import Derived.Test.YtbpimfhachbcdaaDoorBPageCells26
import Derived.Test.YtbpimfhachbcdaaDoorBPageCells29
import Derived.Test.YtbpimfhachbcdaaDoorBPageCells30
import Derived.Test.YtbpimfhachbcdaaDoorBPageCells33
import Derived.Test.YtbpimfhachbcdaaDoorBPageCells36
set_option maxRecDepth 20000
set_option linter.unusedSimpArgs false
set_option linter.unusedVariables false
set_option linter.unusedSectionVars false
namespace Wells
open Go Go.RowKit
def ZR : List Value := [.int .i64 0, .int .i64 0, .int .i64 0, .int .i64 0, .int .i64 0, .int .i64 0, .int .u32 0, .slice none 0 0]
section
variable {w w0 : World} {g : Nat}
end
end Wells
namespace Go.Proofs.YtbpimfhachbcdaaDoor
open Go.RowKit Wells
/-- the record under way -/
structure PQ (w0 w : World) (g8 : Nat) (mc : List Value) (q : Rec) (A : Option Addr) (nr c : Nat) : Prop where
  m : Row w w0.heap.size 27 mc
  z : Row w (w0.heap.size + 1) 64 ZR
  r : Row w g8 64 (RecCells q A nr c)
  d : OB w0.heap.size w (.slice A nr c) q.D
  be : Below w0.heap.size w0 w
  ge : w0.heap.size ≤ g8
  ne : w0.heap.size + 1 ≠ g8
  may : q.may = true
  len : q.D.length = nr
section
variable {w0 w w' : World} {g8 nr c : Nat} {mc : List Value} {q q' : Rec} {A : Option Addr}
theorem PQ.below (h : PQ w0 w g8 mc q A nr c) (hb : Below w.heap.size w w') : PQ w0 w' g8 mc q A nr c :=
  ⟨h.m.below hb h.m.lt, h.z.below hb h.z.lt, h.r.below hb h.r.lt, h.d.below hb, h.be.trans (hb.mono h.be.size), h.ge, h.ne, h.may, h.len⟩
end
end Go.Proofs.YtbpimfhachbcdaaDoor

namespace Wells
open Go Go.RowKit
def mani0 : Mani := ⟨1, 0, ⟨1, 1, 1⟩, 0, [3], []⟩
theorem mani0_may : mani0.may = true := by decide +kernel
theorem mani0_len : (pack mani0).length = 15 := by decide +kernel
theorem mani0_64 : M64 mani0 := ⟨by unfold i64; decide, by unfold i64; decide, by unfold i64; decide, by unfold i64; decide, by unfold i64; decide, by unfold i64; decide, fun z h => by unfold i64; simp [mani0] at h; omega, fun e h => by cases h⟩
theorem mani0_nm : ∀ e ∈ mani0.objs, e.name.length ≤ 1048576 := fun e h => by cases h
theorem REs.nil_ (w : World) (B : Nat) (A : Option Addr) : REs w B A 0 [] [] := ⟨Sl.nil_, rfl, rfl, fun i hi => absurd hi (by omega)⟩
theorem mani0_rm {w : World} {B g c : Nat} {A : Option Addr} (h : Sl w B 1 (some ⟨g, 0, none⟩) 1 [.int .i64 3]) (hc : 1 ≤ c ∧ c ≤ 9223372036854775807) : RM w B mani0 (some ⟨g, 0, none⟩) 1 c A 0 0 [] :=
  ⟨h, rfl, hc, REs.nil_ _ _ _, by omega⟩
end Wells
namespace Go.Proofs.YtbpimfhachbcdaaDoor
open Go.RowKit Wells
end Go.Proofs.YtbpimfhachbcdaaDoor

