/- Light -/
import Derived.Deep.Strs
import Derived.Deep.Slices
import Derived.Test.YtbpimfhachbcdaaDoorBPageJoins08
import Derived.Test.YtbpimfhachbcdaaDoorBPageJoins14
import Derived.Test.YtbpimfhachbcdaaDoorBPageJoins32
set_option maxRecDepth 20000
set_option linter.unusedSimpArgs false
set_option linter.unusedVariables false
set_option linter.unusedSectionVars false
namespace Go.Deep
open Go Go.ChangeShapes Go.WideShapes Go.ChangeAt Go.RowKit
section
variable {H : Type} {enc : TypeId × Value → H} {P : Program} {w : World} {base : Nat} {spare : Nat → Bool} {held : Bool}
end
end Go.Deep
namespace Go.Proofs.YtbpimfhachbcdaaDoor
open Go.ChangeShapes Go.WideShapes Go.ChangeAt Go.RowKit Wells
instance : Inhabited (Ent × Value) := ⟨(default, undef)⟩
end Go.Proofs.YtbpimfhachbcdaaDoor
namespace Go.Proofs.YtbpimfhachbcdaaDoor
open Go.RowKit Wells
structure LightM (m : Mani) : Prop where
  dl : m.drives.length ≤ 70
  ol : m.objs.length ≤ 16
  nm : ∀ e ∈ m.objs, e.name.length ≤ 20
  tr : ∀ e ∈ m.objs, e.tries.length ≤ 20
end Go.Proofs.YtbpimfhachbcdaaDoor

