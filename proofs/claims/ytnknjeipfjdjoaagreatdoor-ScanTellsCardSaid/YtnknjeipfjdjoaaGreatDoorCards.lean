/-
  DERIVED. GIVEN WITH THE SEED: THE CARDS: each row of YtnknjeipfjdjoaaGreatDoorRows.lean that lists a variable, with what it lists TIED to the program's text (the seventh form; the later family's looks); each row that meets fmt, with fmt's text TOLD by the authors' own Lean function (tested against real Go, not proved from fmt's source: count such statements apart). THE CARD IS WHAT COUNTS. Prove the row's statement (the work); the ties are given (YtnknjeipfjdjoaaGreatDoorTie.lean); close each card by the builder's one call (the guide's Derived/Test/ToyasCard.lean, 'card_holds'). Laid BY PROGRAM, IN A SANDBOX (cutbox-door.mjs). By AI agents, Wed Nov 11 2026. No macro, syntax, notation, axiom, sorry.
-/
import Derived.Test.YtnknjeipfjdjoaaGreatDoorRows
import GoSem.ClaimSeven
namespace Go.Proofs.YtnknjeipfjdjoaaGreatDoor
namespace Rows

/-- THE TIED CARD OF 'wellspringlaw23.ScanTells'. -/
def scanTellsCard : Claim7 := { stood := { row := scanTellsRow, standIns := [], harness := (true, "d55ffbbd7f6ffa0b0e595d1297287221e90e616a00656aee82ab449bc0186361"), looks := false }, kinds := [], alts := [], laidByText := true, laidKinds := [.data, .pinned], laidTests := true, laidLooks := .later }
def ScanTellsCardSaid : Prop := Claim7.holds Tryz.pinned (.plain (OpenSpec.ofChange scanTellsSpec)) scanTellsCard

/-- THE TIED CARD OF 'wellspringlaw23.ScanKept'. -/
def scanKeptCard : Claim7 := { stood := { row := scanKeptRow, standIns := [], harness := (true, "d55ffbbd7f6ffa0b0e595d1297287221e90e616a00656aee82ab449bc0186361"), looks := false }, kinds := [], alts := [], laidByText := true, laidKinds := [.data, .pinned], laidTests := true, laidLooks := .later }
def ScanKeptCardSaid : Prop := Claim7.holds Tryz.pinned (.plain (OpenSpec.ofChange scanKeptSpec)) scanKeptCard

/-- THE SECOND FORM's CARD OF 'wellspringlaw23.ScanTells'. -/
def scanTellsUptoCard : Claim7 := { stood := { row := scanTellsUptoRow, standIns := [], harness := (true, "d55ffbbd7f6ffa0b0e595d1297287221e90e616a00656aee82ab449bc0186361"), looks := false }, kinds := [], alts := [], laidByText := true, laidKinds := [.data, .pinned], laidTests := true, laidLooks := .later }
def ScanTellsUptoCardSaid : Prop := Claim7.holds Tryz.pinned (.plain (OpenSpec.upto scanTellsSpec)) scanTellsUptoCard

/-- THE SECOND FORM's CARD OF 'wellspringlaw23.ScanKept'. -/
def scanKeptUptoCard : Claim7 := { stood := { row := scanKeptUptoRow, standIns := [], harness := (true, "d55ffbbd7f6ffa0b0e595d1297287221e90e616a00656aee82ab449bc0186361"), looks := false }, kinds := [], alts := [], laidByText := true, laidKinds := [.data, .pinned], laidTests := true, laidLooks := .later }
def ScanKeptUptoCardSaid : Prop := Claim7.holds Tryz.pinned (.plain (OpenSpec.upto scanKeptSpec)) scanKeptUptoCard
end Rows
end Go.Proofs.YtnknjeipfjdjoaaGreatDoor
