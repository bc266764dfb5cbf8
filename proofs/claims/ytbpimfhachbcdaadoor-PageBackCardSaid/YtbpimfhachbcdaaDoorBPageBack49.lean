/- PlayCells -/
import Derived.Deep.DeepCutAuto
import Derived.Deep.CutBlock
import Derived.Test.YtbpimfhachbcdaaDoorBPageBack00
import Derived.Test.YtbpimfhachbcdaaDoorBPageBack01
import Derived.Test.YtbpimfhachbcdaaDoorBPageBack04
import Derived.Test.YtbpimfhachbcdaaDoorBPageBack06
import Derived.Test.YtbpimfhachbcdaaDoorBPageBack07
import Derived.Test.YtbpimfhachbcdaaDoorBPageBack12
import Derived.Test.YtbpimfhachbcdaaDoorBPageBack13
import Derived.Test.YtbpimfhachbcdaaDoorBPageBack16
import Derived.Test.YtbpimfhachbcdaaDoorBPageBack17
import Derived.Test.YtbpimfhachbcdaaDoorBPageBack22
import Derived.Test.YtbpimfhachbcdaaDoorBPageBack24
import Derived.Test.YtbpimfhachbcdaaDoorBPageBack25
import Derived.Test.YtbpimfhachbcdaaDoorBPageBack27
import Derived.Test.YtbpimfhachbcdaaDoorBPageBack36
import Derived.Test.YtbpimfhachbcdaaDoorBPageBack38
import Derived.Test.YtbpimfhachbcdaaDoorBPageBack46
set_option maxRecDepth 20000
set_option linter.unusedSimpArgs false
set_option linter.unusedVariables false
namespace Wells
open Go Go.RowKit
theorem pageC_len (q : Int) (p : List Byte) (j : Nat) : (pageC q p j).length = 64 := by
  unfold pageC
  have h1 : (pageH q j (pageN p) (pageD p j).length).length = 7 := by unfold pageH; simp [highL_len]
  have h2 := pageD_len p j
  rw [cellL_len, if_pos]
  refine ⟨by omega, by omega, ?_⟩
  rw [List.length_append, h1]
  omega
end Wells
namespace Go.Proofs.YtbpimfhachbcdaaDoor
open Go.RowKit Wells
end Go.Proofs.YtbpimfhachbcdaaDoor

