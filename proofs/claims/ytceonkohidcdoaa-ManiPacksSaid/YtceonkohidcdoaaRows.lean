/-
  No cell of these rows narrows 'for every input' (looked for: loops, veiled, ifaces, maps, wideKeys, modest, calm, conditions, laid).
  DERIVED. THE GIVEN ROWS OF THIS SEAT. 6 by the template 'for every input the law returns true; each argument reads behind the call as it read before'; 0 by the template 'total and deterministic' (their statements: YtceonkohidcdoaaTotals.lean).
  GIVEN WITH THE SEED: the statements are not yours to turn. If you find one false, say at which input.
  Laid BY PROGRAM, IN A SANDBOX (cutbox-rows.mjs): the forced cells as the released guide's own fill.sh prints them over the translation ddaa3ee8890403ac… (all of the seat's roots in one cut). By AI agents, Wed Nov 11 2026. No macro, syntax, notation, axiom, sorry.
-/
import Derived.Test.YtceonkohidcdoaaChecked
import GoSem.Claim
import GoSem.ClaimJoined
import GoSem.ClaimMapViews
import Derived.JoinedTies
import Derived.KernelRfl
namespace Go.Proofs.Ytceonkohidcdoaa
/- THE CELL 'sum', in the pinned program and in every row, IS THE sha256 OF THE DUMP (.gsa) THAT YtceonkohidcdoaaProg.lean LOADS. Nothing in Lean hashes anything: it is a label: what it is worth is what the hold of that sum in a sandbox is worth. -/
noncomputable def Try.pinned : Pinned := { name := "ytceonkohidcdoaa", sum := "ddaa3ee8890403ac0e11a696960b93cb8fc1b5bd6df31448314c2f9e9d4bd671", checked := Try.checked }
namespace Rows
def none {H : Type} : Left H := { results := [], args := [] }

/-- 'wellspringlaw19.ManiPacks': WHATEVER THE INPUT: true; the input reads as it did. -/
def maniPacksSpec : ChangeSpec := { name := "maniPacks", fn := fun _ => fun
  | [d1, d2, d3, d4] => { results := [.lit (.bool true)], args := [d1, d2, d3, d4] }
  | _ => none }
def maniPacksRow : OpenClaim := { program := "ytceonkohidcdoaa", sum := "ddaa3ee8890403ac0e11a696960b93cb8fc1b5bd6df31448314c2f9e9d4bd671", func := "wellspring/wellspringlaw19.ManiPacks", spec := "maniPacks", unfollowed := true, recurses := true, apart := false }
def ManiPacksSaid : Prop := maniPacksRow.holds Try.pinned (OpenSpec.ofChange maniPacksSpec)

/-- ITS FALSE NEIGHBOUR: 'it returns false'. Refute it at one input. -/
def maniPacksWrong : ChangeSpec := { name := "maniPacks", fn := fun _ => fun
  | [d1, d2, d3, d4] => { results := [.lit (.bool false)], args := [d1, d2, d3, d4] }
  | _ => none }
def ManiPacksWrongFalsely : Prop := maniPacksRow.holds Try.pinned (OpenSpec.ofChange maniPacksWrong)

/-- 'wellspringlaw19.ManiParses': WHATEVER THE INPUT: true; the input reads as it did. -/
def maniParsesSpec : ChangeSpec := { name := "maniParses", fn := fun _ => fun
  | [d1, d2, d3, d4, d5] => { results := [.lit (.bool true)], args := [d1, d2, d3, d4, d5] }
  | _ => none }
def maniParsesRow : OpenClaim := { program := "ytceonkohidcdoaa", sum := "ddaa3ee8890403ac0e11a696960b93cb8fc1b5bd6df31448314c2f9e9d4bd671", func := "wellspring/wellspringlaw19.ManiParses", spec := "maniParses", unfollowed := true, recurses := true, apart := false }
def ManiParsesSaid : Prop := maniParsesRow.holds Try.pinned (OpenSpec.ofChange maniParsesSpec)

/-- ITS FALSE NEIGHBOUR: 'it returns false'. Refute it at one input. -/
def maniParsesWrong : ChangeSpec := { name := "maniParses", fn := fun _ => fun
  | [d1, d2, d3, d4, d5] => { results := [.lit (.bool false)], args := [d1, d2, d3, d4, d5] }
  | _ => none }
def ManiParsesWrongFalsely : Prop := maniParsesRow.holds Try.pinned (OpenSpec.ofChange maniParsesWrong)

/-- 'wellspringlaw19.ManiBack': WHATEVER THE INPUT: true; the input reads as it did. -/
def maniBackSpec : ChangeSpec := { name := "maniBack", fn := fun _ => fun
  | [d1, d2, d3] => { results := [.lit (.bool true)], args := [d1, d2, d3] }
  | _ => none }
def maniBackRow : OpenClaim := { program := "ytceonkohidcdoaa", sum := "ddaa3ee8890403ac0e11a696960b93cb8fc1b5bd6df31448314c2f9e9d4bd671", func := "wellspring/wellspringlaw19.ManiBack", spec := "maniBack", unfollowed := true, recurses := true, apart := false }
def ManiBackSaid : Prop := maniBackRow.holds Try.pinned (OpenSpec.ofChange maniBackSpec)

/-- ITS FALSE NEIGHBOUR: 'it returns false'. Refute it at one input. -/
def maniBackWrong : ChangeSpec := { name := "maniBack", fn := fun _ => fun
  | [d1, d2, d3] => { results := [.lit (.bool false)], args := [d1, d2, d3] }
  | _ => none }
def ManiBackWrongFalsely : Prop := maniBackRow.holds Try.pinned (OpenSpec.ofChange maniBackWrong)

/-- 'wellspringlaw19.ManiBlocks': WHATEVER THE INPUT: true; the input reads as it did. -/
def maniBlocksSpec : ChangeSpec := { name := "maniBlocks", fn := fun _ => fun
  | [d1, d2] => { results := [.lit (.bool true)], args := [d1, d2] }
  | _ => none }
def maniBlocksRow : OpenClaim := { program := "ytceonkohidcdoaa", sum := "ddaa3ee8890403ac0e11a696960b93cb8fc1b5bd6df31448314c2f9e9d4bd671", func := "wellspring/wellspringlaw19.ManiBlocks", spec := "maniBlocks", unfollowed := true, recurses := true, apart := false }
def ManiBlocksSaid : Prop := maniBlocksRow.holds Try.pinned (OpenSpec.ofChange maniBlocksSpec)

/-- ITS FALSE NEIGHBOUR: 'it returns false'. Refute it at one input. -/
def maniBlocksWrong : ChangeSpec := { name := "maniBlocks", fn := fun _ => fun
  | [d1, d2] => { results := [.lit (.bool false)], args := [d1, d2] }
  | _ => none }
def ManiBlocksWrongFalsely : Prop := maniBlocksRow.holds Try.pinned (OpenSpec.ofChange maniBlocksWrong)

/-- 'wellspringlaw19.NameTells': WHATEVER THE INPUT: true; the input reads as it did. -/
def nameTellsSpec : ChangeSpec := { name := "nameTells", fn := fun _ => fun
  | [d1, d2, d3, d4, d5, d6] => { results := [.lit (.bool true)], args := [d1, d2, d3, d4, d5, d6] }
  | _ => none }
def nameTellsRow : OpenClaim := { program := "ytceonkohidcdoaa", sum := "ddaa3ee8890403ac0e11a696960b93cb8fc1b5bd6df31448314c2f9e9d4bd671", func := "wellspring/wellspringlaw19.NameTells", spec := "nameTells", unfollowed := true, recurses := true, apart := false }
def NameTellsSaid : Prop := nameTellsRow.holds Try.pinned (OpenSpec.ofChange nameTellsSpec)

/-- ITS FALSE NEIGHBOUR: 'it returns false'. Refute it at one input. -/
def nameTellsWrong : ChangeSpec := { name := "nameTells", fn := fun _ => fun
  | [d1, d2, d3, d4, d5, d6] => { results := [.lit (.bool false)], args := [d1, d2, d3, d4, d5, d6] }
  | _ => none }
def NameTellsWrongFalsely : Prop := nameTellsRow.holds Try.pinned (OpenSpec.ofChange nameTellsWrong)

/-- 'wellspringlaw19.SeedApart': WHATEVER THE INPUT: true; the input reads as it did. -/
def seedApartSpec : ChangeSpec := { name := "seedApart", fn := fun _ => fun
  | [d] => { results := [.lit (.bool true)], args := [d] }
  | _ => none }
def seedApartRow : OpenClaim := { program := "ytceonkohidcdoaa", sum := "ddaa3ee8890403ac0e11a696960b93cb8fc1b5bd6df31448314c2f9e9d4bd671", func := "wellspring/wellspringlaw19.SeedApart", spec := "seedApart", unfollowed := true, recurses := true, apart := false }
def SeedApartSaid : Prop := seedApartRow.holds Try.pinned (OpenSpec.ofChange seedApartSpec)

/-- ITS FALSE NEIGHBOUR: 'it returns false'. Refute it at one input. -/
def seedApartWrong : ChangeSpec := { name := "seedApart", fn := fun _ => fun
  | [d] => { results := [.lit (.bool false)], args := [d] }
  | _ => none }
def SeedApartWrongFalsely : Prop := seedApartRow.holds Try.pinned (OpenSpec.ofChange seedApartWrong)

/- THE SECOND FORM. 'bulk': how many values and letters a reading holds, each counted each time it is reached (what is shared counts as often as it is met; a slice's spare places count too). A statement '..UptoSaid' is the law's where the arguments, and the package variables that the reading takes, are together of bulk at most 1048576: NARROWER than '..Said'. Prove '..Said' where nothing that the law and all that it calls make is longer than what came in: it says more and counts as full. Else prove '..UptoSaid'. A law counts once. -/
mutual
def uptoBulk {H : Type} : DataW H → Nat
  | .lit (.string bytes) => bytes.length + 1
  | .lit _ => 1
  | .nil => 1
  | .ptr d => uptoBulk d + 1
  | .slice elems spare => uptoBulkAll elems + uptoBulkAll spare + 1
  | .agg parts => uptoBulkAll parts + 1
  | .iface _ d => uptoBulk d + 1
  | .map entries => uptoBulkEntries entries + 1
  | .held _ => 1
def uptoBulkAll {H : Type} : List (DataW H) → Nat
  | [] => 0
  | d :: r => uptoBulk d + uptoBulkAll r
def uptoBulkEntries {H : Type} : List (Lit × DataW H) → Nat
  | [] => 0
  | x :: r => uptoBulkEntry x + uptoBulkEntries r
def uptoBulkEntry {H : Type} : Lit × DataW H → Nat
  | (.string bytes, d) => bytes.length + uptoBulk d + 1
  | (_, d) => uptoBulk d + 1
 end
def uptoSmall : (H : Type) → List (DataW H) → Bool := fun _ ds => decide (uptoBulkAll ds ≤ 1048576)
def OpenSpec.upto (s : _root_.Go.ChangeSpec) : _root_.Go.OpenSpec := { _root_.Go.OpenSpec.ofChange s with cond := some uptoSmall }

/-- 'wellspringlaw19.ManiPacks', WHERE WHAT IT READS IS OF BULK AT MOST 1048576: true; the input reads as it did. -/
def maniPacksUptoRow : OpenClaim := { program := "ytceonkohidcdoaa", sum := "ddaa3ee8890403ac0e11a696960b93cb8fc1b5bd6df31448314c2f9e9d4bd671", func := "wellspring/wellspringlaw19.ManiPacks", spec := "maniPacks", unfollowed := true, recurses := true, apart := false, narrowed := true }
def ManiPacksUptoSaid : Prop := maniPacksUptoRow.holds Try.pinned (OpenSpec.upto maniPacksSpec)

/-- 'wellspringlaw19.ManiParses', WHERE WHAT IT READS IS OF BULK AT MOST 1048576: true; the input reads as it did. -/
def maniParsesUptoRow : OpenClaim := { program := "ytceonkohidcdoaa", sum := "ddaa3ee8890403ac0e11a696960b93cb8fc1b5bd6df31448314c2f9e9d4bd671", func := "wellspring/wellspringlaw19.ManiParses", spec := "maniParses", unfollowed := true, recurses := true, apart := false, narrowed := true }
def ManiParsesUptoSaid : Prop := maniParsesUptoRow.holds Try.pinned (OpenSpec.upto maniParsesSpec)

/-- 'wellspringlaw19.ManiBack', WHERE WHAT IT READS IS OF BULK AT MOST 1048576: true; the input reads as it did. -/
def maniBackUptoRow : OpenClaim := { program := "ytceonkohidcdoaa", sum := "ddaa3ee8890403ac0e11a696960b93cb8fc1b5bd6df31448314c2f9e9d4bd671", func := "wellspring/wellspringlaw19.ManiBack", spec := "maniBack", unfollowed := true, recurses := true, apart := false, narrowed := true }
def ManiBackUptoSaid : Prop := maniBackUptoRow.holds Try.pinned (OpenSpec.upto maniBackSpec)

/-- 'wellspringlaw19.ManiBlocks', WHERE WHAT IT READS IS OF BULK AT MOST 1048576: true; the input reads as it did. -/
def maniBlocksUptoRow : OpenClaim := { program := "ytceonkohidcdoaa", sum := "ddaa3ee8890403ac0e11a696960b93cb8fc1b5bd6df31448314c2f9e9d4bd671", func := "wellspring/wellspringlaw19.ManiBlocks", spec := "maniBlocks", unfollowed := true, recurses := true, apart := false, narrowed := true }
def ManiBlocksUptoSaid : Prop := maniBlocksUptoRow.holds Try.pinned (OpenSpec.upto maniBlocksSpec)

/-- 'wellspringlaw19.NameTells', WHERE WHAT IT READS IS OF BULK AT MOST 1048576: true; the input reads as it did. -/
def nameTellsUptoRow : OpenClaim := { program := "ytceonkohidcdoaa", sum := "ddaa3ee8890403ac0e11a696960b93cb8fc1b5bd6df31448314c2f9e9d4bd671", func := "wellspring/wellspringlaw19.NameTells", spec := "nameTells", unfollowed := true, recurses := true, apart := false, narrowed := true }
def NameTellsUptoSaid : Prop := nameTellsUptoRow.holds Try.pinned (OpenSpec.upto nameTellsSpec)

/-- 'wellspringlaw19.SeedApart', WHERE WHAT IT READS IS OF BULK AT MOST 1048576: true; the input reads as it did. -/
def seedApartUptoRow : OpenClaim := { program := "ytceonkohidcdoaa", sum := "ddaa3ee8890403ac0e11a696960b93cb8fc1b5bd6df31448314c2f9e9d4bd671", func := "wellspring/wellspringlaw19.SeedApart", spec := "seedApart", unfollowed := true, recurses := true, apart := false, narrowed := true }
def SeedApartUptoSaid : Prop := seedApartUptoRow.holds Try.pinned (OpenSpec.upto seedApartSpec)

end Rows
end Go.Proofs.Ytceonkohidcdoaa
