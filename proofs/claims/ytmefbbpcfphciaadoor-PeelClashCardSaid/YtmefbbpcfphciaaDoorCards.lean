/-
  DERIVED. GIVEN WITH THE SEED: THE CARDS: each row of YtmefbbpcfphciaaDoorRows.lean that lists a variable, with what it lists TIED to the program's text (the seventh form; the later family's looks); each row that meets fmt, with fmt's text TOLD by the authors' own Lean function (tested against real Go, not proved from fmt's source: count such statements apart). THE CARD IS WHAT COUNTS. Prove the row's statement (the work); the ties are given (YtmefbbpcfphciaaDoorTie.lean); close each card by the builder's one call (the guide's Derived/Test/ToyasCard.lean, 'card_holds'). Laid BY PROGRAM, IN A SANDBOX (cutbox-door.mjs). By AI agents, Wed Nov 11 2026. No macro, syntax, notation, axiom, sorry.
-/
import Derived.Test.YtmefbbpcfphciaaDoorRows
import GoSem.ClaimSeven
namespace Go.Proofs.YtmefbbpcfphciaaDoor
namespace Rows

/-- THE TIED CARD OF 'wellspringlaw12.PeelTells'. -/
def peelTellsCard : Claim7 := { stood := { row := peelTellsRow, standIns := [], harness := (true, "669e4b04207aff01ac8d7d1c7435d59f1705ed3b02f268011ab1c943ee4e3b84"), looks := false }, kinds := [], alts := [], laidByText := true, laidKinds := [.data, .pinned], laidTests := true, laidLooks := .later }
def PeelTellsCardSaid : Prop := Claim7.holds Tryd.pinned (.plain (OpenSpec.ofChange peelTellsSpec)) peelTellsCard

/-- THE TIED CARD OF 'wellspringlaw12.PeelTrue'. -/
def peelTrueCard : Claim7 := { stood := { row := peelTrueRow, standIns := [], harness := (true, "669e4b04207aff01ac8d7d1c7435d59f1705ed3b02f268011ab1c943ee4e3b84"), looks := false }, kinds := [], alts := [], laidByText := true, laidKinds := [.data, .pinned], laidTests := true, laidLooks := .later }
def PeelTrueCardSaid : Prop := Claim7.holds Tryd.pinned (.plain (OpenSpec.ofChange peelTrueSpec)) peelTrueCard

/-- THE TIED CARD OF 'wellspringlaw12.PeelOrder'. -/
def peelOrderCard : Claim7 := { stood := { row := peelOrderRow, standIns := [], harness := (true, "669e4b04207aff01ac8d7d1c7435d59f1705ed3b02f268011ab1c943ee4e3b84"), looks := false }, kinds := [], alts := [], laidByText := true, laidKinds := [.data, .pinned], laidTests := true, laidLooks := .later }
def PeelOrderCardSaid : Prop := Claim7.holds Tryd.pinned (.plain (OpenSpec.ofChange peelOrderSpec)) peelOrderCard

/-- THE TIED CARD OF 'wellspringlaw12.PeelClash'. -/
def peelClashCard : Claim7 := { stood := { row := peelClashRow, standIns := [], harness := (true, "669e4b04207aff01ac8d7d1c7435d59f1705ed3b02f268011ab1c943ee4e3b84"), looks := false }, kinds := [], alts := [], laidByText := true, laidKinds := [.data, .pinned], laidTests := true, laidLooks := .later }
def PeelClashCardSaid : Prop := Claim7.holds Tryd.pinned (.plain (OpenSpec.ofChange peelClashSpec)) peelClashCard

/-- THE SECOND FORM's CARD OF 'wellspringlaw12.PeelTells'. -/
def peelTellsUptoCard : Claim7 := { stood := { row := peelTellsUptoRow, standIns := [], harness := (true, "669e4b04207aff01ac8d7d1c7435d59f1705ed3b02f268011ab1c943ee4e3b84"), looks := false }, kinds := [], alts := [], laidByText := true, laidKinds := [.data, .pinned], laidTests := true, laidLooks := .later }
def PeelTellsUptoCardSaid : Prop := Claim7.holds Tryd.pinned (.plain (OpenSpec.upto peelTellsSpec)) peelTellsUptoCard

/-- THE SECOND FORM's CARD OF 'wellspringlaw12.PeelTrue'. -/
def peelTrueUptoCard : Claim7 := { stood := { row := peelTrueUptoRow, standIns := [], harness := (true, "669e4b04207aff01ac8d7d1c7435d59f1705ed3b02f268011ab1c943ee4e3b84"), looks := false }, kinds := [], alts := [], laidByText := true, laidKinds := [.data, .pinned], laidTests := true, laidLooks := .later }
def PeelTrueUptoCardSaid : Prop := Claim7.holds Tryd.pinned (.plain (OpenSpec.upto peelTrueSpec)) peelTrueUptoCard

/-- THE SECOND FORM's CARD OF 'wellspringlaw12.PeelOrder'. -/
def peelOrderUptoCard : Claim7 := { stood := { row := peelOrderUptoRow, standIns := [], harness := (true, "669e4b04207aff01ac8d7d1c7435d59f1705ed3b02f268011ab1c943ee4e3b84"), looks := false }, kinds := [], alts := [], laidByText := true, laidKinds := [.data, .pinned], laidTests := true, laidLooks := .later }
def PeelOrderUptoCardSaid : Prop := Claim7.holds Tryd.pinned (.plain (OpenSpec.upto peelOrderSpec)) peelOrderUptoCard

/-- THE SECOND FORM's CARD OF 'wellspringlaw12.PeelClash'. -/
def peelClashUptoCard : Claim7 := { stood := { row := peelClashUptoRow, standIns := [], harness := (true, "669e4b04207aff01ac8d7d1c7435d59f1705ed3b02f268011ab1c943ee4e3b84"), looks := false }, kinds := [], alts := [], laidByText := true, laidKinds := [.data, .pinned], laidTests := true, laidLooks := .later }
def PeelClashUptoCardSaid : Prop := Claim7.holds Tryd.pinned (.plain (OpenSpec.upto peelClashSpec)) peelClashUptoCard
end Rows
end Go.Proofs.YtmefbbpcfphciaaDoor
