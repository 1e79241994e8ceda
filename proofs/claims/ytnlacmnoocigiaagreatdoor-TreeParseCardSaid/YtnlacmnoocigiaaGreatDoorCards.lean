/-
  DERIVED. GIVEN WITH THE SEED: THE CARDS: each row of YtnlacmnoocigiaaGreatDoorRows.lean that lists a variable, with what it lists TIED to the program's text (the seventh form; the later family's looks); each row that meets fmt, with fmt's text TOLD by the authors' own Lean function (tested against real Go, not proved from fmt's source: count such statements apart). THE CARD IS WHAT COUNTS. Prove the row's statement (the work); the ties are given (YtnlacmnoocigiaaGreatDoorTie.lean); close each card by the builder's one call (the guide's Derived/Test/ToyasCard.lean, 'card_holds'). Laid BY PROGRAM, IN A SANDBOX (cutbox-door.mjs). By AI agents, Wed Nov 11 2026. No macro, syntax, notation, axiom, sorry.
-/
import Derived.Test.YtnlacmnoocigiaaGreatDoorRows
import GoSem.ClaimSeven
namespace Go.Proofs.YtnlacmnoocigiaaGreatDoor
namespace Rows

/-- THE TIED CARD OF 'hopscotchlaw05.TreeParse'. -/
def treeParseCard : Claim7 := { stood := { row := treeParseRow, standIns := [], harness := (true, "e35263594da013d8a7f905cbd9e25457205a10dfa59d4ca773c12d6893463907"), looks := true }, kinds := [], alts := [], laidByText := true, laidKinds := [.data, .data, .data, .data, .sentinel, .sentinel, .data, .pinned], laidTests := true, laidLooks := .later }
def TreeParseCardSaid : Prop := Claim7.holds Tryz.pinned (.plain (OpenSpec.ofChange treeParseSpec)) treeParseCard

/-- THE TIED CARD OF 'hopscotchlaw05.TreeKnown'. -/
def treeKnownCard : Claim7 := { stood := { row := treeKnownRow, standIns := [], harness := (true, "e35263594da013d8a7f905cbd9e25457205a10dfa59d4ca773c12d6893463907"), looks := true }, kinds := [], alts := [], laidByText := true, laidKinds := [.data, .data, .data, .data, .sentinel, .sentinel, .data, .pinned], laidTests := true, laidLooks := .later }
def TreeKnownCardSaid : Prop := Claim7.holds Tryz.pinned (.plain (OpenSpec.ofChange treeKnownSpec)) treeKnownCard

/-- THE SECOND FORM's CARD OF 'hopscotchlaw05.TreeParse'. -/
def treeParseUptoCard : Claim7 := { stood := { row := treeParseUptoRow, standIns := [], harness := (true, "e35263594da013d8a7f905cbd9e25457205a10dfa59d4ca773c12d6893463907"), looks := true }, kinds := [], alts := [], laidByText := true, laidKinds := [.data, .data, .data, .data, .sentinel, .sentinel, .data, .pinned], laidTests := true, laidLooks := .later }
def TreeParseUptoCardSaid : Prop := Claim7.holds Tryz.pinned (.plain (OpenSpec.upto treeParseSpec)) treeParseUptoCard

/-- THE SECOND FORM's CARD OF 'hopscotchlaw05.TreeKnown'. -/
def treeKnownUptoCard : Claim7 := { stood := { row := treeKnownUptoRow, standIns := [], harness := (true, "e35263594da013d8a7f905cbd9e25457205a10dfa59d4ca773c12d6893463907"), looks := true }, kinds := [], alts := [], laidByText := true, laidKinds := [.data, .data, .data, .data, .sentinel, .sentinel, .data, .pinned], laidTests := true, laidLooks := .later }
def TreeKnownUptoCardSaid : Prop := Claim7.holds Tryz.pinned (.plain (OpenSpec.upto treeKnownSpec)) treeKnownUptoCard
end Rows
end Go.Proofs.YtnlacmnoocigiaaGreatDoor
