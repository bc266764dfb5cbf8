/- PlayCells -/
import Derived.Deep.DeepCutAuto
import Derived.Deep.CutBlock
import Derived.Test.YtbpimfhachbcdaaDoorBPageNewest00
import Derived.Test.YtbpimfhachbcdaaDoorBPageNewest02
import Derived.Test.YtbpimfhachbcdaaDoorBPageNewest04
import Derived.Test.YtbpimfhachbcdaaDoorBPageNewest06
import Derived.Test.YtbpimfhachbcdaaDoorBPageNewest07
import Derived.Test.YtbpimfhachbcdaaDoorBPageNewest12
import Derived.Test.YtbpimfhachbcdaaDoorBPageNewest13
import Derived.Test.YtbpimfhachbcdaaDoorBPageNewest16
import Derived.Test.YtbpimfhachbcdaaDoorBPageNewest17
import Derived.Test.YtbpimfhachbcdaaDoorBPageNewest22
import Derived.Test.YtbpimfhachbcdaaDoorBPageNewest23
import Derived.Test.YtbpimfhachbcdaaDoorBPageNewest24
import Derived.Test.YtbpimfhachbcdaaDoorBPageNewest26
import Derived.Test.YtbpimfhachbcdaaDoorBPageNewest34
import Derived.Test.YtbpimfhachbcdaaDoorBPageNewest36
import Derived.Test.YtbpimfhachbcdaaDoorBPageNewest44
set_option maxRecDepth 20000
set_option linter.unusedSimpArgs false
set_option linter.unusedVariables false
namespace Wells
open Go Go.RowKit
theorem pageC_len (q : Int) (p : List Byte) (j : Nat) : (pageC q p j).length = 64 := by
  unfold pageC
  have h1 : (pageH q j (pageN p) (pageD p j).length).length = 7 := by unfold pageH; simp [highL_len]
  have h2 := pageD_len p j
  rw [cellL_len, if_pos]
  refine ⟨by omega, by omega, ?_⟩
  rw [List.length_append, h1]
  omega
end Wells
namespace Go.Proofs.YtbpimfhachbcdaaDoor
open Go.RowKit Wells
end Go.Proofs.YtbpimfhachbcdaaDoor

