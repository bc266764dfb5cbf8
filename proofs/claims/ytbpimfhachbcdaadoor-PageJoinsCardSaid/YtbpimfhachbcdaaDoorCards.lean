/-
  DERIVED. GIVEN WITH THE SEED: THE CARDS: each row of YtbpimfhachbcdaaDoorRows.lean that lists a variable, with what it lists TIED to the program's text (the seventh form; the later family's looks); each row that meets fmt, with fmt's text TOLD by the authors' own Lean function (tested against real Go, not proved from fmt's source: count such statements apart). THE CARD IS WHAT COUNTS. Prove the row's statement (the work); the ties are given (YtbpimfhachbcdaaDoorTie.lean); close each card by the builder's one call (the guide's Derived/Test/ToyasCard.lean, 'card_holds'). Laid BY PROGRAM, IN A SANDBOX (cutbox-door.mjs). By AI agents, Wed Nov 11 2026. No macro, syntax, notation, axiom, sorry.
-/
import Derived.Test.YtbpimfhachbcdaaDoorRows
import GoSem.ClaimSeven
namespace Go.Proofs.YtbpimfhachbcdaaDoor
namespace Rows

/-- THE TIED CARD OF 'wellspringlaw20.PageSplits'. -/
def pageSplitsCard : Claim7 := { stood := { row := pageSplitsRow, standIns := [], harness := (true, "b5d71aea901f0ede592b317431fccecf0a35141c6f1fecf5f746f0b1cd735e24"), looks := false }, kinds := [], alts := [], laidByText := true, laidKinds := [.data, .pinned], laidTests := true, laidLooks := .later }
def PageSplitsCardSaid : Prop := Claim7.holds Tryd.pinned (.plain (OpenSpec.ofChange pageSplitsSpec)) pageSplitsCard

/-- THE TIED CARD OF 'wellspringlaw20.PageJoins'. -/
def pageJoinsCard : Claim7 := { stood := { row := pageJoinsRow, standIns := [], harness := (true, "b5d71aea901f0ede592b317431fccecf0a35141c6f1fecf5f746f0b1cd735e24"), looks := false }, kinds := [], alts := [], laidByText := true, laidKinds := [.data, .pinned], laidTests := true, laidLooks := .later }
def PageJoinsCardSaid : Prop := Claim7.holds Tryd.pinned (.plain (OpenSpec.ofChange pageJoinsSpec)) pageJoinsCard

/-- THE TIED CARD OF 'wellspringlaw20.PageBack'. -/
def pageBackCard : Claim7 := { stood := { row := pageBackRow, standIns := [], harness := (true, "b5d71aea901f0ede592b317431fccecf0a35141c6f1fecf5f746f0b1cd735e24"), looks := false }, kinds := [], alts := [], laidByText := true, laidKinds := [.data, .pinned], laidTests := true, laidLooks := .later }
def PageBackCardSaid : Prop := Claim7.holds Tryd.pinned (.plain (OpenSpec.ofChange pageBackSpec)) pageBackCard

/-- THE TIED CARD OF 'wellspringlaw20.PageNewest'. -/
def pageNewestCard : Claim7 := { stood := { row := pageNewestRow, standIns := [], harness := (true, "b5d71aea901f0ede592b317431fccecf0a35141c6f1fecf5f746f0b1cd735e24"), looks := false }, kinds := [], alts := [], laidByText := true, laidKinds := [.data, .pinned], laidTests := true, laidLooks := .later }
def PageNewestCardSaid : Prop := Claim7.holds Tryd.pinned (.plain (OpenSpec.ofChange pageNewestSpec)) pageNewestCard

/-- THE TIED CARD OF 'wellspringlaw20.PageCells'. -/
def pageCellsCard : Claim7 := { stood := { row := pageCellsRow, standIns := [], harness := (true, "b5d71aea901f0ede592b317431fccecf0a35141c6f1fecf5f746f0b1cd735e24"), looks := false }, kinds := [], alts := [], laidByText := true, laidKinds := [.data, .pinned], laidTests := true, laidLooks := .later }
def PageCellsCardSaid : Prop := Claim7.holds Tryd.pinned (.plain (OpenSpec.ofChange pageCellsSpec)) pageCellsCard

/-- THE SECOND FORM's CARD OF 'wellspringlaw20.PageSplits'. -/
def pageSplitsUptoCard : Claim7 := { stood := { row := pageSplitsUptoRow, standIns := [], harness := (true, "b5d71aea901f0ede592b317431fccecf0a35141c6f1fecf5f746f0b1cd735e24"), looks := false }, kinds := [], alts := [], laidByText := true, laidKinds := [.data, .pinned], laidTests := true, laidLooks := .later }
def PageSplitsUptoCardSaid : Prop := Claim7.holds Tryd.pinned (.plain (OpenSpec.upto pageSplitsSpec)) pageSplitsUptoCard

/-- THE SECOND FORM's CARD OF 'wellspringlaw20.PageJoins'. -/
def pageJoinsUptoCard : Claim7 := { stood := { row := pageJoinsUptoRow, standIns := [], harness := (true, "b5d71aea901f0ede592b317431fccecf0a35141c6f1fecf5f746f0b1cd735e24"), looks := false }, kinds := [], alts := [], laidByText := true, laidKinds := [.data, .pinned], laidTests := true, laidLooks := .later }
def PageJoinsUptoCardSaid : Prop := Claim7.holds Tryd.pinned (.plain (OpenSpec.upto pageJoinsSpec)) pageJoinsUptoCard

/-- THE SECOND FORM's CARD OF 'wellspringlaw20.PageBack'. -/
def pageBackUptoCard : Claim7 := { stood := { row := pageBackUptoRow, standIns := [], harness := (true, "b5d71aea901f0ede592b317431fccecf0a35141c6f1fecf5f746f0b1cd735e24"), looks := false }, kinds := [], alts := [], laidByText := true, laidKinds := [.data, .pinned], laidTests := true, laidLooks := .later }
def PageBackUptoCardSaid : Prop := Claim7.holds Tryd.pinned (.plain (OpenSpec.upto pageBackSpec)) pageBackUptoCard

/-- THE SECOND FORM's CARD OF 'wellspringlaw20.PageNewest'. -/
def pageNewestUptoCard : Claim7 := { stood := { row := pageNewestUptoRow, standIns := [], harness := (true, "b5d71aea901f0ede592b317431fccecf0a35141c6f1fecf5f746f0b1cd735e24"), looks := false }, kinds := [], alts := [], laidByText := true, laidKinds := [.data, .pinned], laidTests := true, laidLooks := .later }
def PageNewestUptoCardSaid : Prop := Claim7.holds Tryd.pinned (.plain (OpenSpec.upto pageNewestSpec)) pageNewestUptoCard

/-- THE SECOND FORM's CARD OF 'wellspringlaw20.PageCells'. -/
def pageCellsUptoCard : Claim7 := { stood := { row := pageCellsUptoRow, standIns := [], harness := (true, "b5d71aea901f0ede592b317431fccecf0a35141c6f1fecf5f746f0b1cd735e24"), looks := false }, kinds := [], alts := [], laidByText := true, laidKinds := [.data, .pinned], laidTests := true, laidLooks := .later }
def PageCellsUptoCardSaid : Prop := Claim7.holds Tryd.pinned (.plain (OpenSpec.upto pageCellsSpec)) pageCellsUptoCard
end Rows
end Go.Proofs.YtbpimfhachbcdaaDoor
