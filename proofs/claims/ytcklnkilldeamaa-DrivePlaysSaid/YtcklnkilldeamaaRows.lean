/-
  No cell of these rows narrows 'for every input' (looked for: loops, veiled, ifaces, maps, wideKeys, modest, calm, conditions, laid).
  DERIVED. THE GIVEN ROWS OF THIS SEAT. 4 by the template 'for every input the law returns true; each argument reads behind the call as it read before'; 0 by the template 'total and deterministic' (their statements: YtcklnkilldeamaaTotals.lean).
  GIVEN WITH THE SEED: the statements are not yours to turn. If you find one false, say at which input.
  Laid BY PROGRAM, IN A SANDBOX (cutbox-rows.mjs): the forced cells as the released guide's own fill.sh prints them over the translation f34224ef91d456ef… (all of the seat's roots in one cut). By AI agents, Wed Nov 11 2026. No macro, syntax, notation, axiom, sorry.
-/
import Derived.Test.YtcklnkilldeamaaChecked
import GoSem.Claim
import GoSem.ClaimJoined
import GoSem.ClaimMapViews
import Derived.JoinedTies
import Derived.KernelRfl
namespace Go.Proofs.Ytcklnkilldeamaa
/- THE CELL 'sum', in the pinned program and in every row, IS THE sha256 OF THE DUMP (.gsa) THAT YtcklnkilldeamaaProg.lean LOADS. Nothing in Lean hashes anything: it is a label: what it is worth is what the hold of that sum in a sandbox is worth. -/
noncomputable def Try.pinned : Pinned := { name := "ytcklnkilldeamaa", sum := "f34224ef91d456ef2173ee5bad7e13ffcb9e67fa8a33b21162891bbdd6e39f79", checked := Try.checked }
namespace Rows
def none {H : Type} : Left H := { results := [], args := [] }

/-- 'wellspringlaw22.DriveFalls': WHATEVER THE INPUT: true; the input reads as it did. -/
def driveFallsSpec : ChangeSpec := { name := "driveFalls", fn := fun _ => fun
  | [d1, d2, d3, d4, d5] => { results := [.lit (.bool true)], args := [d1, d2, d3, d4, d5] }
  | _ => none }
def driveFallsRow : OpenClaim := { program := "ytcklnkilldeamaa", sum := "f34224ef91d456ef2173ee5bad7e13ffcb9e67fa8a33b21162891bbdd6e39f79", func := "wellspring/wellspringlaw22.DriveFalls", spec := "driveFalls", unfollowed := true, recurses := true, apart := false }
def DriveFallsSaid : Prop := driveFallsRow.holds Try.pinned (OpenSpec.ofChange driveFallsSpec)

/-- ITS FALSE NEIGHBOUR: 'it returns false'. Refute it at one input. -/
def driveFallsWrong : ChangeSpec := { name := "driveFalls", fn := fun _ => fun
  | [d1, d2, d3, d4, d5] => { results := [.lit (.bool false)], args := [d1, d2, d3, d4, d5] }
  | _ => none }
def DriveFallsWrongFalsely : Prop := driveFallsRow.holds Try.pinned (OpenSpec.ofChange driveFallsWrong)

/-- 'wellspringlaw22.DriveWhole': WHATEVER THE INPUT: true; the input reads as it did. -/
def driveWholeSpec : ChangeSpec := { name := "driveWhole", fn := fun _ => fun
  | [d1, d2, d3, d4, d5, d6] => { results := [.lit (.bool true)], args := [d1, d2, d3, d4, d5, d6] }
  | _ => none }
def driveWholeRow : OpenClaim := { program := "ytcklnkilldeamaa", sum := "f34224ef91d456ef2173ee5bad7e13ffcb9e67fa8a33b21162891bbdd6e39f79", func := "wellspring/wellspringlaw22.DriveWhole", spec := "driveWhole", unfollowed := true, recurses := true, apart := false }
def DriveWholeSaid : Prop := driveWholeRow.holds Try.pinned (OpenSpec.ofChange driveWholeSpec)

/-- ITS FALSE NEIGHBOUR: 'it returns false'. Refute it at one input. -/
def driveWholeWrong : ChangeSpec := { name := "driveWhole", fn := fun _ => fun
  | [d1, d2, d3, d4, d5, d6] => { results := [.lit (.bool false)], args := [d1, d2, d3, d4, d5, d6] }
  | _ => none }
def DriveWholeWrongFalsely : Prop := driveWholeRow.holds Try.pinned (OpenSpec.ofChange driveWholeWrong)

/-- 'wellspringlaw22.DriveApart': WHATEVER THE INPUT: true; the input reads as it did. -/
def driveApartSpec : ChangeSpec := { name := "driveApart", fn := fun _ => fun
  | [d1, d2, d3, d4] => { results := [.lit (.bool true)], args := [d1, d2, d3, d4] }
  | _ => none }
def driveApartRow : OpenClaim := { program := "ytcklnkilldeamaa", sum := "f34224ef91d456ef2173ee5bad7e13ffcb9e67fa8a33b21162891bbdd6e39f79", func := "wellspring/wellspringlaw22.DriveApart", spec := "driveApart", apart := false }
def DriveApartSaid : Prop := driveApartRow.holds Try.pinned (OpenSpec.ofChange driveApartSpec)

/-- ITS FALSE NEIGHBOUR: 'it returns false'. Refute it at one input. -/
def driveApartWrong : ChangeSpec := { name := "driveApart", fn := fun _ => fun
  | [d1, d2, d3, d4] => { results := [.lit (.bool false)], args := [d1, d2, d3, d4] }
  | _ => none }
def DriveApartWrongFalsely : Prop := driveApartRow.holds Try.pinned (OpenSpec.ofChange driveApartWrong)

/-- 'wellspringlaw22.DrivePlays': WHATEVER THE INPUT: true; the input reads as it did. -/
def drivePlaysSpec : ChangeSpec := { name := "drivePlays", fn := fun _ => fun
  | [d1, d2, d3, d4, d5, d6] => { results := [.lit (.bool true)], args := [d1, d2, d3, d4, d5, d6] }
  | _ => none }
def drivePlaysRow : OpenClaim := { program := "ytcklnkilldeamaa", sum := "f34224ef91d456ef2173ee5bad7e13ffcb9e67fa8a33b21162891bbdd6e39f79", func := "wellspring/wellspringlaw22.DrivePlays", spec := "drivePlays", apart := false }
def DrivePlaysSaid : Prop := drivePlaysRow.holds Try.pinned (OpenSpec.ofChange drivePlaysSpec)

/-- ITS FALSE NEIGHBOUR: 'it returns false'. Refute it at one input. -/
def drivePlaysWrong : ChangeSpec := { name := "drivePlays", fn := fun _ => fun
  | [d1, d2, d3, d4, d5, d6] => { results := [.lit (.bool false)], args := [d1, d2, d3, d4, d5, d6] }
  | _ => none }
def DrivePlaysWrongFalsely : Prop := drivePlaysRow.holds Try.pinned (OpenSpec.ofChange drivePlaysWrong)

/- THE SECOND FORM. 'bulk': how many values and letters a reading holds, each counted each time it is reached (what is shared counts as often as it is met; a slice's spare places count too). A statement '..UptoSaid' is the law's where the arguments, and the package variables that the reading takes, are together of bulk at most 1048576: NARROWER than '..Said'. Prove '..Said' where nothing that the law and all that it calls make is longer than what came in: it says more and counts as full. Else prove '..UptoSaid'. A law counts once. -/
mutual
def uptoBulk {H : Type} : DataW H → Nat
  | .lit (.string bytes) => bytes.length + 1
  | .lit _ => 1
  | .nil => 1
  | .ptr d => uptoBulk d + 1
  | .slice elems spare => uptoBulkAll elems + uptoBulkAll spare + 1
  | .agg parts => uptoBulkAll parts + 1
  | .iface _ d => uptoBulk d + 1
  | .map entries => uptoBulkEntries entries + 1
  | .held _ => 1
def uptoBulkAll {H : Type} : List (DataW H) → Nat
  | [] => 0
  | d :: r => uptoBulk d + uptoBulkAll r
def uptoBulkEntries {H : Type} : List (Lit × DataW H) → Nat
  | [] => 0
  | x :: r => uptoBulkEntry x + uptoBulkEntries r
def uptoBulkEntry {H : Type} : Lit × DataW H → Nat
  | (.string bytes, d) => bytes.length + uptoBulk d + 1
  | (_, d) => uptoBulk d + 1
 end
def uptoSmall : (H : Type) → List (DataW H) → Bool := fun _ ds => decide (uptoBulkAll ds ≤ 1048576)
def OpenSpec.upto (s : _root_.Go.ChangeSpec) : _root_.Go.OpenSpec := { _root_.Go.OpenSpec.ofChange s with cond := some uptoSmall }

/-- 'wellspringlaw22.DriveFalls', WHERE WHAT IT READS IS OF BULK AT MOST 1048576: true; the input reads as it did. -/
def driveFallsUptoRow : OpenClaim := { program := "ytcklnkilldeamaa", sum := "f34224ef91d456ef2173ee5bad7e13ffcb9e67fa8a33b21162891bbdd6e39f79", func := "wellspring/wellspringlaw22.DriveFalls", spec := "driveFalls", unfollowed := true, recurses := true, apart := false, narrowed := true }
def DriveFallsUptoSaid : Prop := driveFallsUptoRow.holds Try.pinned (OpenSpec.upto driveFallsSpec)

/-- 'wellspringlaw22.DriveWhole', WHERE WHAT IT READS IS OF BULK AT MOST 1048576: true; the input reads as it did. -/
def driveWholeUptoRow : OpenClaim := { program := "ytcklnkilldeamaa", sum := "f34224ef91d456ef2173ee5bad7e13ffcb9e67fa8a33b21162891bbdd6e39f79", func := "wellspring/wellspringlaw22.DriveWhole", spec := "driveWhole", unfollowed := true, recurses := true, apart := false, narrowed := true }
def DriveWholeUptoSaid : Prop := driveWholeUptoRow.holds Try.pinned (OpenSpec.upto driveWholeSpec)

/-- 'wellspringlaw22.DriveApart', WHERE WHAT IT READS IS OF BULK AT MOST 1048576: true; the input reads as it did. -/
def driveApartUptoRow : OpenClaim := { program := "ytcklnkilldeamaa", sum := "f34224ef91d456ef2173ee5bad7e13ffcb9e67fa8a33b21162891bbdd6e39f79", func := "wellspring/wellspringlaw22.DriveApart", spec := "driveApart", apart := false, narrowed := true }
def DriveApartUptoSaid : Prop := driveApartUptoRow.holds Try.pinned (OpenSpec.upto driveApartSpec)

/-- 'wellspringlaw22.DrivePlays', WHERE WHAT IT READS IS OF BULK AT MOST 1048576: true; the input reads as it did. -/
def drivePlaysUptoRow : OpenClaim := { program := "ytcklnkilldeamaa", sum := "f34224ef91d456ef2173ee5bad7e13ffcb9e67fa8a33b21162891bbdd6e39f79", func := "wellspring/wellspringlaw22.DrivePlays", spec := "drivePlays", apart := false, narrowed := true }
def DrivePlaysUptoSaid : Prop := drivePlaysUptoRow.holds Try.pinned (OpenSpec.upto drivePlaysSpec)

end Rows
end Go.Proofs.Ytcklnkilldeamaa
