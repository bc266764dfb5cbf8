/-
  NARROWER THAN 'FOR EVERY INPUT', by the rows' own cells (each row's printed sentence says how): PageSplits: laid · PageJoins: laid · PageBack: laid · PageNewest: laid · PageCells: laid.
  DERIVED. THE GIVEN ROWS OF THIS SEAT. 5 by the template 'for every input the law returns true; each argument reads behind the call as it read before'; 0 by the template 'total and deterministic' (their statements: YtbpimfhachbcdaaDoorTotals.lean).
  GIVEN WITH THE SEED: the statements are not yours to turn. If you find one false, say at which input.
  Laid BY PROGRAM, IN A SANDBOX (cutbox-rows.mjs): the forced cells as the released guide's own fill.sh prints them over the translation 1c4f5459df50f4fa… (all of the seat's roots in one cut). By AI agents, Wed Nov 11 2026. No macro, syntax, notation, axiom, sorry.
-/
import Derived.Test.YtbpimfhachbcdaaDoorChecked
import GoSem.PinnedTables
import GoSem.Claim
import GoSem.ClaimJoined
import GoSem.ClaimMapViews
import Derived.JoinedTies
import Derived.KernelRfl
namespace Go.Proofs.YtbpimfhachbcdaaDoor
/- THE CELL 'sum', in the pinned program and in every row, IS THE sha256 OF THE DUMP (.gsa) THAT YtbpimfhachbcdaaDoorProg.lean LOADS. Nothing in Lean hashes anything: it is a label: what it is worth is what the hold of that sum in a sandbox is worth. -/
noncomputable def Tryd.pinned : Pinned := { name := "ytbpimfhachbcdaadoor", sum := "1c4f5459df50f4fa85d250ee5fdcf2848ee00fad9bfb125922457399c0b3668a", checked := Tryd.checked }
namespace Rows
def none {H : Type} : Left H := { results := [], args := [] }

/- WHAT THE LISTED PACKAGE-LEVEL VARIABLES READ AS WHEN THE CALL BEGINS. Each datum BY PROGRAM (the guide's laid-datum.mjs) off the statement by which the dump's own 'gosem.cut.vars' lays the variable. In a bare row this is a premise. The card (YtbpimfhachbcdaaDoorCards.lean) ties it to the program's text. -/
def laid_unicode_utf8_acceptRanges {H : Type} : DataW H := .agg [.agg [.lit (.int .u8 128), .lit (.int .u8 191)], .agg [.lit (.int .u8 160), .lit (.int .u8 191)], .agg [.lit (.int .u8 128), .lit (.int .u8 159)], .agg [.lit (.int .u8 144), .lit (.int .u8 191)], .agg [.lit (.int .u8 128), .lit (.int .u8 143)], .agg [.lit (.int .u8 0), .lit (.int .u8 0)], .agg [.lit (.int .u8 0), .lit (.int .u8 0)], .agg [.lit (.int .u8 0), .lit (.int .u8 0)], .agg [.lit (.int .u8 0), .lit (.int .u8 0)], .agg [.lit (.int .u8 0), .lit (.int .u8 0)], .agg [.lit (.int .u8 0), .lit (.int .u8 0)], .agg [.lit (.int .u8 0), .lit (.int .u8 0)], .agg [.lit (.int .u8 0), .lit (.int .u8 0)], .agg [.lit (.int .u8 0), .lit (.int .u8 0)], .agg [.lit (.int .u8 0), .lit (.int .u8 0)], .agg [.lit (.int .u8 0), .lit (.int .u8 0)]]
/-- One of Go's own tables, pinned by name: the form's constant. -/
def laid_unicode_utf8_first : DataW Unit := Go.Pinned.utf8First

/-- 'wellspringlaw20.PageSplits': WHATEVER THE INPUT: true; the input reads as it did. -/
def pageSplitsSpec : ChangeSpec := { name := "pageSplits", fn := fun _ => fun
  | [d1, d2, d3, d4] => { results := [.lit (.bool true)], args := [d1, d2, d3, d4] }
  | _ => none }
def pageSplitsRow : OpenClaim := { program := "ytbpimfhachbcdaadoor", sum := "1c4f5459df50f4fa85d250ee5fdcf2848ee00fad9bfb125922457399c0b3668a", func := "wellspring/wellspringlaw20.PageSplits", spec := "pageSplits", unfollowed := true, recurses := true, named := ["unicode/utf8.first", "unicode/utf8.acceptRanges"], apart := false, laid := [("unicode/utf8.acceptRanges", laid_unicode_utf8_acceptRanges), ("unicode/utf8.first", laid_unicode_utf8_first)] }
def PageSplitsSaid : Prop := pageSplitsRow.holds Tryd.pinned (OpenSpec.ofChange pageSplitsSpec)

/-- ITS FALSE NEIGHBOUR: 'it returns false'. Refute it at one input. -/
def pageSplitsWrong : ChangeSpec := { name := "pageSplits", fn := fun _ => fun
  | [d1, d2, d3, d4] => { results := [.lit (.bool false)], args := [d1, d2, d3, d4] }
  | _ => none }
def PageSplitsWrongFalsely : Prop := pageSplitsRow.holds Tryd.pinned (OpenSpec.ofChange pageSplitsWrong)

/-- 'wellspringlaw20.PageJoins': WHATEVER THE INPUT: true; the input reads as it did. -/
def pageJoinsSpec : ChangeSpec := { name := "pageJoins", fn := fun _ => fun
  | [d1, d2, d3] => { results := [.lit (.bool true)], args := [d1, d2, d3] }
  | _ => none }
def pageJoinsRow : OpenClaim := { program := "ytbpimfhachbcdaadoor", sum := "1c4f5459df50f4fa85d250ee5fdcf2848ee00fad9bfb125922457399c0b3668a", func := "wellspring/wellspringlaw20.PageJoins", spec := "pageJoins", unfollowed := true, recurses := true, named := ["unicode/utf8.first", "unicode/utf8.acceptRanges"], apart := false, laid := [("unicode/utf8.acceptRanges", laid_unicode_utf8_acceptRanges), ("unicode/utf8.first", laid_unicode_utf8_first)] }
def PageJoinsSaid : Prop := pageJoinsRow.holds Tryd.pinned (OpenSpec.ofChange pageJoinsSpec)

/-- ITS FALSE NEIGHBOUR: 'it returns false'. Refute it at one input. -/
def pageJoinsWrong : ChangeSpec := { name := "pageJoins", fn := fun _ => fun
  | [d1, d2, d3] => { results := [.lit (.bool false)], args := [d1, d2, d3] }
  | _ => none }
def PageJoinsWrongFalsely : Prop := pageJoinsRow.holds Tryd.pinned (OpenSpec.ofChange pageJoinsWrong)

/-- 'wellspringlaw20.PageBack': WHATEVER THE INPUT: true; the input reads as it did. -/
def pageBackSpec : ChangeSpec := { name := "pageBack", fn := fun _ => fun
  | [d1, d2, d3] => { results := [.lit (.bool true)], args := [d1, d2, d3] }
  | _ => none }
def pageBackRow : OpenClaim := { program := "ytbpimfhachbcdaadoor", sum := "1c4f5459df50f4fa85d250ee5fdcf2848ee00fad9bfb125922457399c0b3668a", func := "wellspring/wellspringlaw20.PageBack", spec := "pageBack", unfollowed := true, recurses := true, named := ["unicode/utf8.first", "unicode/utf8.acceptRanges"], apart := false, laid := [("unicode/utf8.acceptRanges", laid_unicode_utf8_acceptRanges), ("unicode/utf8.first", laid_unicode_utf8_first)] }
def PageBackSaid : Prop := pageBackRow.holds Tryd.pinned (OpenSpec.ofChange pageBackSpec)

/-- ITS FALSE NEIGHBOUR: 'it returns false'. Refute it at one input. -/
def pageBackWrong : ChangeSpec := { name := "pageBack", fn := fun _ => fun
  | [d1, d2, d3] => { results := [.lit (.bool false)], args := [d1, d2, d3] }
  | _ => none }
def PageBackWrongFalsely : Prop := pageBackRow.holds Tryd.pinned (OpenSpec.ofChange pageBackWrong)

/-- 'wellspringlaw20.PageNewest': WHATEVER THE INPUT: true; the input reads as it did. -/
def pageNewestSpec : ChangeSpec := { name := "pageNewest", fn := fun _ => fun
  | [d1, d2, d3] => { results := [.lit (.bool true)], args := [d1, d2, d3] }
  | _ => none }
def pageNewestRow : OpenClaim := { program := "ytbpimfhachbcdaadoor", sum := "1c4f5459df50f4fa85d250ee5fdcf2848ee00fad9bfb125922457399c0b3668a", func := "wellspring/wellspringlaw20.PageNewest", spec := "pageNewest", unfollowed := true, recurses := true, named := ["unicode/utf8.first", "unicode/utf8.acceptRanges"], apart := false, laid := [("unicode/utf8.acceptRanges", laid_unicode_utf8_acceptRanges), ("unicode/utf8.first", laid_unicode_utf8_first)] }
def PageNewestSaid : Prop := pageNewestRow.holds Tryd.pinned (OpenSpec.ofChange pageNewestSpec)

/-- ITS FALSE NEIGHBOUR: 'it returns false'. Refute it at one input. -/
def pageNewestWrong : ChangeSpec := { name := "pageNewest", fn := fun _ => fun
  | [d1, d2, d3] => { results := [.lit (.bool false)], args := [d1, d2, d3] }
  | _ => none }
def PageNewestWrongFalsely : Prop := pageNewestRow.holds Tryd.pinned (OpenSpec.ofChange pageNewestWrong)

/-- 'wellspringlaw20.PageCells': WHATEVER THE INPUT: true; the input reads as it did. -/
def pageCellsSpec : ChangeSpec := { name := "pageCells", fn := fun _ => fun
  | [d] => { results := [.lit (.bool true)], args := [d] }
  | _ => none }
def pageCellsRow : OpenClaim := { program := "ytbpimfhachbcdaadoor", sum := "1c4f5459df50f4fa85d250ee5fdcf2848ee00fad9bfb125922457399c0b3668a", func := "wellspring/wellspringlaw20.PageCells", spec := "pageCells", unfollowed := true, recurses := true, named := ["unicode/utf8.first", "unicode/utf8.acceptRanges"], apart := false, laid := [("unicode/utf8.acceptRanges", laid_unicode_utf8_acceptRanges), ("unicode/utf8.first", laid_unicode_utf8_first)] }
def PageCellsSaid : Prop := pageCellsRow.holds Tryd.pinned (OpenSpec.ofChange pageCellsSpec)

/-- ITS FALSE NEIGHBOUR: 'it returns false'. Refute it at one input. -/
def pageCellsWrong : ChangeSpec := { name := "pageCells", fn := fun _ => fun
  | [d] => { results := [.lit (.bool false)], args := [d] }
  | _ => none }
def PageCellsWrongFalsely : Prop := pageCellsRow.holds Tryd.pinned (OpenSpec.ofChange pageCellsWrong)

/- THE SECOND FORM. 'bulk': how many values and letters a reading holds, each counted each time it is reached (what is shared counts as often as it is met; a slice's spare places count too). A statement '..UptoSaid' is the law's where the arguments, and the package variables that the reading takes, are together of bulk at most 1048576: NARROWER than '..Said'. Prove '..Said' where nothing that the law and all that it calls make is longer than what came in: it says more and counts as full. Else prove '..UptoSaid'. A law counts once. -/
mutual
def uptoBulk {H : Type} : DataW H → Nat
  | .lit (.string bytes) => bytes.length + 1
  | .lit _ => 1
  | .nil => 1
  | .ptr d => uptoBulk d + 1
  | .slice elems spare => uptoBulkAll elems + uptoBulkAll spare + 1
  | .agg parts => uptoBulkAll parts + 1
  | .iface _ d => uptoBulk d + 1
  | .map entries => uptoBulkEntries entries + 1
  | .held _ => 1
def uptoBulkAll {H : Type} : List (DataW H) → Nat
  | [] => 0
  | d :: r => uptoBulk d + uptoBulkAll r
def uptoBulkEntries {H : Type} : List (Lit × DataW H) → Nat
  | [] => 0
  | x :: r => uptoBulkEntry x + uptoBulkEntries r
def uptoBulkEntry {H : Type} : Lit × DataW H → Nat
  | (.string bytes, d) => bytes.length + uptoBulk d + 1
  | (_, d) => uptoBulk d + 1
 end
def uptoSmall : (H : Type) → List (DataW H) → Bool := fun _ ds => decide (uptoBulkAll ds ≤ 1048576)
def OpenSpec.upto (s : _root_.Go.ChangeSpec) : _root_.Go.OpenSpec := { _root_.Go.OpenSpec.ofChange s with cond := some uptoSmall }

/-- 'wellspringlaw20.PageSplits', WHERE WHAT IT READS IS OF BULK AT MOST 1048576: true; the input reads as it did. -/
def pageSplitsUptoRow : OpenClaim := { program := "ytbpimfhachbcdaadoor", sum := "1c4f5459df50f4fa85d250ee5fdcf2848ee00fad9bfb125922457399c0b3668a", func := "wellspring/wellspringlaw20.PageSplits", spec := "pageSplits", unfollowed := true, recurses := true, named := ["unicode/utf8.first", "unicode/utf8.acceptRanges"], apart := false, laid := [("unicode/utf8.acceptRanges", laid_unicode_utf8_acceptRanges), ("unicode/utf8.first", laid_unicode_utf8_first)], narrowed := true }
def PageSplitsUptoSaid : Prop := pageSplitsUptoRow.holds Tryd.pinned (OpenSpec.upto pageSplitsSpec)

/-- 'wellspringlaw20.PageJoins', WHERE WHAT IT READS IS OF BULK AT MOST 1048576: true; the input reads as it did. -/
def pageJoinsUptoRow : OpenClaim := { program := "ytbpimfhachbcdaadoor", sum := "1c4f5459df50f4fa85d250ee5fdcf2848ee00fad9bfb125922457399c0b3668a", func := "wellspring/wellspringlaw20.PageJoins", spec := "pageJoins", unfollowed := true, recurses := true, named := ["unicode/utf8.first", "unicode/utf8.acceptRanges"], apart := false, laid := [("unicode/utf8.acceptRanges", laid_unicode_utf8_acceptRanges), ("unicode/utf8.first", laid_unicode_utf8_first)], narrowed := true }
def PageJoinsUptoSaid : Prop := pageJoinsUptoRow.holds Tryd.pinned (OpenSpec.upto pageJoinsSpec)

/-- 'wellspringlaw20.PageBack', WHERE WHAT IT READS IS OF BULK AT MOST 1048576: true; the input reads as it did. -/
def pageBackUptoRow : OpenClaim := { program := "ytbpimfhachbcdaadoor", sum := "1c4f5459df50f4fa85d250ee5fdcf2848ee00fad9bfb125922457399c0b3668a", func := "wellspring/wellspringlaw20.PageBack", spec := "pageBack", unfollowed := true, recurses := true, named := ["unicode/utf8.first", "unicode/utf8.acceptRanges"], apart := false, laid := [("unicode/utf8.acceptRanges", laid_unicode_utf8_acceptRanges), ("unicode/utf8.first", laid_unicode_utf8_first)], narrowed := true }
def PageBackUptoSaid : Prop := pageBackUptoRow.holds Tryd.pinned (OpenSpec.upto pageBackSpec)

/-- 'wellspringlaw20.PageNewest', WHERE WHAT IT READS IS OF BULK AT MOST 1048576: true; the input reads as it did. -/
def pageNewestUptoRow : OpenClaim := { program := "ytbpimfhachbcdaadoor", sum := "1c4f5459df50f4fa85d250ee5fdcf2848ee00fad9bfb125922457399c0b3668a", func := "wellspring/wellspringlaw20.PageNewest", spec := "pageNewest", unfollowed := true, recurses := true, named := ["unicode/utf8.first", "unicode/utf8.acceptRanges"], apart := false, laid := [("unicode/utf8.acceptRanges", laid_unicode_utf8_acceptRanges), ("unicode/utf8.first", laid_unicode_utf8_first)], narrowed := true }
def PageNewestUptoSaid : Prop := pageNewestUptoRow.holds Tryd.pinned (OpenSpec.upto pageNewestSpec)

/-- 'wellspringlaw20.PageCells', WHERE WHAT IT READS IS OF BULK AT MOST 1048576: true; the input reads as it did. -/
def pageCellsUptoRow : OpenClaim := { program := "ytbpimfhachbcdaadoor", sum := "1c4f5459df50f4fa85d250ee5fdcf2848ee00fad9bfb125922457399c0b3668a", func := "wellspring/wellspringlaw20.PageCells", spec := "pageCells", unfollowed := true, recurses := true, named := ["unicode/utf8.first", "unicode/utf8.acceptRanges"], apart := false, laid := [("unicode/utf8.acceptRanges", laid_unicode_utf8_acceptRanges), ("unicode/utf8.first", laid_unicode_utf8_first)], narrowed := true }
def PageCellsUptoSaid : Prop := pageCellsUptoRow.holds Tryd.pinned (OpenSpec.upto pageCellsSpec)

end Rows
end Go.Proofs.YtbpimfhachbcdaaDoor
