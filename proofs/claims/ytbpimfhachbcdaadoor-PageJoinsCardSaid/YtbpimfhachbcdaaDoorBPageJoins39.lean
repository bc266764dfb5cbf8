/- Order -/
import Derived.Sort.Grow
import Derived.BigGuardPart
import Derived.Deep.DeepCutAuto
import Derived.Test.YtbpimfhachbcdaaDoorBPageJoins00
import Derived.Test.YtbpimfhachbcdaaDoorBPageJoins07
import Derived.Test.YtbpimfhachbcdaaDoorBPageJoins14
import Derived.Test.YtbpimfhachbcdaaDoorBPageJoins38
set_option maxRecDepth 20000
set_option linter.unusedSimpArgs false
set_option linter.unusedVariables false
namespace Wells
open Go Go.RowKit
def cmpI (a b : Int) : Int := if a < b then -1 else if b < a then 1 else 0
end Wells
namespace Go.Proofs.YtbpimfhachbcdaaDoor
open Go.RowKit Wells Go.Sort
theorem ccmp_any (a b c : Int) (hc : cmpI a b = c) (w : World) : Calls Tryd.prog 43 #[.int .i64 a, .int .i64 b] w fun e w' => e = .returned (.int .i64 c) ∧ w = w' := by
  have HC := hid hc
  clear hc
  unfold cmpI at HC
  rcases Int.lt_trichotomy a b with h | h | h
  · have h2 : ¬ b < a := by omega
    go_enter Tryd.func43, Tryd.ntmps43
    go_wp2
    go_ret
    exact ⟨ret_int (by rw [← HC.out, if_pos h]), rfl⟩
  · subst h
    go_enter Tryd.func43, Tryd.ntmps43
    go_wp2
    go_ret
    exact ⟨ret_int (by rw [← HC.out]; simp), rfl⟩
  · have h2 : ¬ a < b := by omega
    go_enter Tryd.func43, Tryd.ntmps43
    go_wp2
    go_ret
    exact ⟨ret_int (by rw [← HC.out, if_neg (by omega), if_pos h]), rfl⟩
end Go.Proofs.YtbpimfhachbcdaaDoor

