/- PlayCells -/
import Derived.Deep.DeepCutAuto
import Derived.Deep.CutBlock
import Derived.Test.YtbpimfhachbcdaaDoorBPageSplits02
import Derived.Test.YtbpimfhachbcdaaDoorBPageSplits07
import Derived.Test.YtbpimfhachbcdaaDoorBPageSplits11
import Derived.Test.YtbpimfhachbcdaaDoorBPageSplits12
import Derived.Test.YtbpimfhachbcdaaDoorBPageSplits14
import Derived.Test.YtbpimfhachbcdaaDoorBPageSplits15
import Derived.Test.YtbpimfhachbcdaaDoorBPageSplits25
import Derived.Test.YtbpimfhachbcdaaDoorBPageSplits33
import Derived.Test.YtbpimfhachbcdaaDoorBPageSplits36
import Derived.Test.YtbpimfhachbcdaaDoorBPageSplits46
set_option maxRecDepth 20000
set_option linter.unusedSimpArgs false
set_option linter.unusedVariables false
namespace Wells
open Go Go.RowKit
theorem pageC_len (q : Int) (p : List Byte) (j : Nat) : (pageC q p j).length = 64 := by
  unfold pageC
  have h1 : (pageH q j (pageN p) (pageD p j).length).length = 7 := by unfold pageH; simp [highL_len]
  have h2 := pageD_len p j
  rw [cellL_len, if_pos]
  refine ⟨by omega, by omega, ?_⟩
  rw [List.length_append, h1]
  omega
end Wells
namespace Go.Proofs.YtbpimfhachbcdaaDoor
open Go.RowKit Wells
end Go.Proofs.YtbpimfhachbcdaaDoor

