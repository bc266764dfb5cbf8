/- RefCell -/
import Derived.Test.YtbpimfhachbcdaaDoorBPageNewest10
set_option maxRecDepth 20000
set_option linter.unusedSimpArgs false
set_option linter.unusedVariables false
namespace Wells
open Go
def lenOf : Value → Nat
  | .slice _ n _ => n
  | _ => 0
end Wells
namespace Go.Proofs.YtbpimfhachbcdaaDoor
open Go.RowKit Wells
end Go.Proofs.YtbpimfhachbcdaaDoor

