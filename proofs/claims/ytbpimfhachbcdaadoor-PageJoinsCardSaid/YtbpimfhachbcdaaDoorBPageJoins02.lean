/- Within Power -/
import Derived.Test.YtbpimfhachbcdaaDoorProg
import Derived.Test.YtbpimfhachbcdaaDoorBPageJoins00
set_option maxRecDepth 20000
set_option linter.unusedSimpArgs false
set_option linter.unusedVariables false
namespace Go.Proofs.YtbpimfhachbcdaaDoor
open Go.RowKit Wells

theorem tmod_neg (x n : Int) (hx : x < 0) (hn : 1 ≤ n) : (x.tmod n < 0 → x.tmod n + n = x % n) ∧ (¬ x.tmod n < 0 → x.tmod n = x % n) ∧ -n < x.tmod n ∧ x.tmod n ≤ 0 := by
  have h1 := Int.emod_nonneg x (show n ≠ 0 by omega)
  have h2 := Int.emod_lt_of_pos x (show 0 < n by omega)
  have h3 : (n.natAbs : Int) = n := by omega
  rw [Int.tmod_eq_emod]
  by_cases hd : n ∣ x
  · have h5 : x % n = 0 := Int.emod_eq_zero_of_dvd hd
    simp [hd, h5]; omega
  · have h6 : x % n ≠ 0 := fun h => hd (Int.dvd_of_emod_eq_zero h)
    rw [if_neg (by simp [hd]; omega)]
    omega
theorem within_any (x n : Int) (w : World) (h1 : -9223372036854775808 ≤ x) (h2 : x ≤ 9223372036854775807) (h3 : 1 ≤ n) (h4 : n ≤ 4611686018427387904) :
    Calls Tryd.prog 17 #[.int .i64 x, .int .i64 n] w fun e w' => e = .returned (.int .i64 (x % n)) ∧ w = w' := by
  have hr := Int.emod_nonneg x (show n ≠ 0 by omega)
  have hr2 := Int.emod_lt_of_pos x (show 0 < n by omega)
  by_cases hx : 0 ≤ x
  · go_enter Tryd.func17, Tryd.ntmps17
    go_wp2
    go_ret
    exact ⟨rfl, rfl⟩
  · obtain ⟨t1, t2, t3, t4⟩ := tmod_neg x n (by omega) h3
    by_cases ht : x.tmod n < 0
    · have T1 := hid (t1 ht)
      clear t1 t2
      go_enter Tryd.func17, Tryd.ntmps17
      go_wp2
      go_ret
      exact ⟨ret_int T1.out, rfl⟩
    · have T2 := hid (t2 ht)
      clear t1 t2
      go_enter Tryd.func17, Tryd.ntmps17
      go_wp2
      go_ret
      exact ⟨ret_int T2.out, rfl⟩

end Go.Proofs.YtbpimfhachbcdaaDoor

namespace Wells
open Go Go.RowKit
/-- a Power: off, armed, how many steps go, how often it went off -/
structure Pw where
  off : Bool
  armed : Bool
  left : Int
  offs : Int
def Pw.new : Pw := ⟨false, false, 0, 0⟩
def Pw.step (s : Pw) : Pw := if s.off then s else if s.armed then (if s.left = 0 then { s with off := true, offs := s.offs + 1 } else { s with left := s.left - 1 }) else s
def Pw.goes (s : Pw) : Bool := !s.off && (!s.armed || !decide (s.left = 0))
def Pw.again (s : Pw) : Pw := { s with off := false, armed := false, left := 0 }
end Wells
namespace Go.Proofs.YtbpimfhachbcdaaDoor
open Go.RowKit Wells

end Go.Proofs.YtbpimfhachbcdaaDoor

