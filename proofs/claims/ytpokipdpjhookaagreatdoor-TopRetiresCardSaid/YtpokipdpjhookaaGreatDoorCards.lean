/-
  DERIVED. GIVEN WITH THE SEED: THE CARDS: each row of YtpokipdpjhookaaGreatDoorRows.lean that lists a variable, with what it lists TIED to the program's text (the seventh form; the later family's looks); each row that meets fmt, with fmt's text TOLD by the authors' own Lean function (tested against real Go, not proved from fmt's source: count such statements apart). THE CARD IS WHAT COUNTS. Prove the row's statement (the work); the ties are given (YtpokipdpjhookaaGreatDoorTie.lean); close each card by the builder's one call (the guide's Derived/Test/ToyasCard.lean, 'card_holds'). Laid BY PROGRAM, IN A SANDBOX (cutbox-door.mjs). By AI agents, Wed Nov 11 2026. No macro, syntax, notation, axiom, sorry.
-/
import Derived.Test.YtpokipdpjhookaaGreatDoorRows
import GoSem.ClaimSeven
namespace Go.Proofs.YtpokipdpjhookaaGreatDoor
namespace Rows

/-- THE TIED CARD OF 'wellspringtop.TopRetires'. -/
def topRetiresCard : Claim7 := { stood := { row := topRetiresRow, standIns := [], harness := (true, "be5813271612fa382681d45e3a332ee1b2f134cbd0716e37d6fd8d570785fd1b"), looks := false }, kinds := [], alts := [], laidByText := true, laidKinds := [.data, .pinned], laidTests := true, laidLooks := .later }
def TopRetiresCardSaid : Prop := Claim7.holds Tryz.pinned (.plain (OpenSpec.ofChange topRetiresSpec)) topRetiresCard

/-- THE SECOND FORM's CARD OF 'wellspringtop.TopRetires'. -/
def topRetiresUptoCard : Claim7 := { stood := { row := topRetiresUptoRow, standIns := [], harness := (true, "be5813271612fa382681d45e3a332ee1b2f134cbd0716e37d6fd8d570785fd1b"), looks := false }, kinds := [], alts := [], laidByText := true, laidKinds := [.data, .pinned], laidTests := true, laidLooks := .later }
def TopRetiresUptoCardSaid : Prop := Claim7.holds Tryz.pinned (.plain (OpenSpec.upto topRetiresSpec)) topRetiresUptoCard
end Rows
end Go.Proofs.YtpokipdpjhookaaGreatDoor
