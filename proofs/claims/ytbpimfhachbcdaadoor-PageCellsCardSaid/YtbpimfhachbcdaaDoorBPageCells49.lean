/- PlayCells -/
import Derived.Deep.DeepCutAuto
import Derived.Deep.CutBlock
import Derived.Test.YtbpimfhachbcdaaDoorBPageCells00
import Derived.Test.YtbpimfhachbcdaaDoorBPageCells01
import Derived.Test.YtbpimfhachbcdaaDoorBPageCells04
import Derived.Test.YtbpimfhachbcdaaDoorBPageCells07
import Derived.Test.YtbpimfhachbcdaaDoorBPageCells08
import Derived.Test.YtbpimfhachbcdaaDoorBPageCells12
import Derived.Test.YtbpimfhachbcdaaDoorBPageCells13
import Derived.Test.YtbpimfhachbcdaaDoorBPageCells16
import Derived.Test.YtbpimfhachbcdaaDoorBPageCells17
import Derived.Test.YtbpimfhachbcdaaDoorBPageCells22
import Derived.Test.YtbpimfhachbcdaaDoorBPageCells24
import Derived.Test.YtbpimfhachbcdaaDoorBPageCells25
import Derived.Test.YtbpimfhachbcdaaDoorBPageCells27
import Derived.Test.YtbpimfhachbcdaaDoorBPageCells36
import Derived.Test.YtbpimfhachbcdaaDoorBPageCells38
import Derived.Test.YtbpimfhachbcdaaDoorBPageCells46
set_option maxRecDepth 20000
set_option linter.unusedSimpArgs false
set_option linter.unusedVariables false
namespace Wells
open Go Go.RowKit
theorem pageC_len (q : Int) (p : List Byte) (j : Nat) : (pageC q p j).length = 64 := by
  unfold pageC
  have h1 : (pageH q j (pageN p) (pageD p j).length).length = 7 := by unfold pageH; simp [highL_len]
  have h2 := pageD_len p j
  rw [cellL_len, if_pos]
  refine ⟨by omega, by omega, ?_⟩
  rw [List.length_append, h1]
  omega
end Wells
namespace Go.Proofs.YtbpimfhachbcdaaDoor
open Go.RowKit Wells
end Go.Proofs.YtbpimfhachbcdaaDoor

