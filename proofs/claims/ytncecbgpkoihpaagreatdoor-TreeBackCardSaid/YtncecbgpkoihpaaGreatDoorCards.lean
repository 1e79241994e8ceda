/-
  DERIVED. GIVEN WITH THE SEED: THE CARDS: each row of YtncecbgpkoihpaaGreatDoorRows.lean that lists a variable, with what it lists TIED to the program's text (the seventh form; the later family's looks); each row that meets fmt, with fmt's text TOLD by the authors' own Lean function (tested against real Go, not proved from fmt's source: count such statements apart). THE CARD IS WHAT COUNTS. Prove the row's statement (the work); the ties are given (YtncecbgpkoihpaaGreatDoorTie.lean); close each card by the builder's one call (the guide's Derived/Test/ToyasCard.lean, 'card_holds'). Laid BY PROGRAM, IN A SANDBOX (cutbox-door.mjs). By AI agents, Wed Nov 11 2026. No macro, syntax, notation, axiom, sorry.
-/
import Derived.Test.YtncecbgpkoihpaaGreatDoorRows
import GoSem.ClaimSeven
namespace Go.Proofs.YtncecbgpkoihpaaGreatDoor
namespace Rows

/-- THE TIED CARD OF 'hopscotchlaw31.TraceGets'. -/
def traceGetsCard : Claim7 := { stood := { row := traceGetsRow, standIns := [], harness := (true, "ca85974678bfb4be8fee1c2d32e2e37ae9ca3d60d17c9135ae7a0e1e2f8d6e70"), looks := true }, kinds := [], alts := [], laidByText := true, laidKinds := [.data, .data, .data, .data, .sentinel, .sentinel, .widerDeep, .pinned], laidTests := true, laidLooks := .later }
def TraceGetsCardSaid : Prop := Claim7.holds Tryz.pinned (.plain (OpenSpec.ofChange traceGetsSpec)) traceGetsCard

/-- THE TIED CARD OF 'hopscotchlaw31.TraceKnown'. -/
def traceKnownCard : Claim7 := { stood := { row := traceKnownRow, standIns := [], harness := (true, "ca85974678bfb4be8fee1c2d32e2e37ae9ca3d60d17c9135ae7a0e1e2f8d6e70"), looks := true }, kinds := [], alts := [], laidByText := true, laidKinds := [.data, .data, .data, .data, .sentinel, .sentinel, .widerDeep, .pinned], laidTests := true, laidLooks := .later }
def TraceKnownCardSaid : Prop := Claim7.holds Tryz.pinned (.plain (OpenSpec.ofChange traceKnownSpec)) traceKnownCard

/-- THE TIED CARD OF 'hopscotchlaw15.WriterOrder'. -/
def writerOrderCard : Claim7 := { stood := { row := writerOrderRow, standIns := [], harness := (true, "ca85974678bfb4be8fee1c2d32e2e37ae9ca3d60d17c9135ae7a0e1e2f8d6e70"), looks := true }, kinds := [], alts := [], laidByText := true, laidKinds := [.data, .data, .data, .data, .data, .widerDeep, .pinned], laidTests := true, laidLooks := .later }
def WriterOrderCardSaid : Prop := Claim7.holds Tryz.pinned (.plain (OpenSpec.ofChange writerOrderSpec)) writerOrderCard

/-- THE TIED CARD OF 'hopscotchlaw15.WriterWrite'. -/
def writerWriteCard : Claim7 := { stood := { row := writerWriteRow, standIns := [], harness := (true, "ca85974678bfb4be8fee1c2d32e2e37ae9ca3d60d17c9135ae7a0e1e2f8d6e70"), looks := true }, kinds := [], alts := [], laidByText := true, laidKinds := [.data, .data, .data, .data, .data, .widerDeep, .pinned], laidTests := true, laidLooks := .later }
def WriterWriteCardSaid : Prop := Claim7.holds Tryz.pinned (.plain (OpenSpec.ofChange writerWriteSpec)) writerWriteCard

/-- THE TIED CARD OF 'hopscotchlaw15.WriterApart'. -/
def writerApartCard : Claim7 := { stood := { row := writerApartRow, standIns := [], harness := (true, "ca85974678bfb4be8fee1c2d32e2e37ae9ca3d60d17c9135ae7a0e1e2f8d6e70"), looks := true }, kinds := [], alts := [], laidByText := true, laidKinds := [.data, .data, .data, .data, .data, .widerDeep, .pinned], laidTests := true, laidLooks := .later }
def WriterApartCardSaid : Prop := Claim7.holds Tryz.pinned (.plain (OpenSpec.ofChange writerApartSpec)) writerApartCard

/-- THE TIED CARD OF 'hopscotchlaw05.TreeParse'. -/
def treeParseCard : Claim7 := { stood := { row := treeParseRow, standIns := [], harness := (true, "ca85974678bfb4be8fee1c2d32e2e37ae9ca3d60d17c9135ae7a0e1e2f8d6e70"), looks := true }, kinds := [], alts := [], laidByText := true, laidKinds := [.data, .data, .data, .data, .sentinel, .sentinel, .data, .pinned], laidTests := true, laidLooks := .later }
def TreeParseCardSaid : Prop := Claim7.holds Tryz.pinned (.plain (OpenSpec.ofChange treeParseSpec)) treeParseCard

/-- THE TIED CARD OF 'hopscotchlaw05.TreeBack'. -/
def treeBackCard : Claim7 := { stood := { row := treeBackRow, standIns := [], harness := (true, "ca85974678bfb4be8fee1c2d32e2e37ae9ca3d60d17c9135ae7a0e1e2f8d6e70"), looks := true }, kinds := [], alts := [], laidByText := true, laidKinds := [.data, .data, .data, .data, .sentinel, .sentinel, .data, .pinned], laidTests := true, laidLooks := .later }
def TreeBackCardSaid : Prop := Claim7.holds Tryz.pinned (.plain (OpenSpec.ofChange treeBackSpec)) treeBackCard

/-- THE TIED CARD OF 'hopscotchlaw05.TreeSame'. -/
def treeSameCard : Claim7 := { stood := { row := treeSameRow, standIns := [], harness := (true, "ca85974678bfb4be8fee1c2d32e2e37ae9ca3d60d17c9135ae7a0e1e2f8d6e70"), looks := true }, kinds := [], alts := [], laidByText := true, laidKinds := [.data, .data, .data, .data, .sentinel, .sentinel, .data, .pinned], laidTests := true, laidLooks := .later }
def TreeSameCardSaid : Prop := Claim7.holds Tryz.pinned (.plain (OpenSpec.ofChange treeSameSpec)) treeSameCard

/-- THE TIED CARD OF 'hopscotchlaw05.TreeKnown'. -/
def treeKnownCard : Claim7 := { stood := { row := treeKnownRow, standIns := [], harness := (true, "ca85974678bfb4be8fee1c2d32e2e37ae9ca3d60d17c9135ae7a0e1e2f8d6e70"), looks := true }, kinds := [], alts := [], laidByText := true, laidKinds := [.data, .data, .data, .data, .sentinel, .sentinel, .data, .pinned], laidTests := true, laidLooks := .later }
def TreeKnownCardSaid : Prop := Claim7.holds Tryz.pinned (.plain (OpenSpec.ofChange treeKnownSpec)) treeKnownCard

/-- THE TIED CARD OF 'hopscotchlaw15.WriterRight'. -/
def writerRightCard : Claim7 := { stood := { row := writerRightRow, standIns := [], harness := (true, "ca85974678bfb4be8fee1c2d32e2e37ae9ca3d60d17c9135ae7a0e1e2f8d6e70"), looks := true }, kinds := [], alts := [], laidByText := true, laidKinds := [.data, .data, .data, .data, .sentinel, .sentinel, .data, .widerDeep, .pinned], laidTests := true, laidLooks := .later }
def WriterRightCardSaid : Prop := Claim7.holds Tryz.pinned (.plain (OpenSpec.ofChange writerRightSpec)) writerRightCard

/-- THE TIED CARD OF 'hopscotchlaw15.WriterKnown'. -/
def writerKnownCard : Claim7 := { stood := { row := writerKnownRow, standIns := [], harness := (true, "ca85974678bfb4be8fee1c2d32e2e37ae9ca3d60d17c9135ae7a0e1e2f8d6e70"), looks := true }, kinds := [], alts := [], laidByText := true, laidKinds := [.data, .data, .data, .data, .sentinel, .sentinel, .data, .widerDeep, .pinned], laidTests := true, laidLooks := .later }
def WriterKnownCardSaid : Prop := Claim7.holds Tryz.pinned (.plain (OpenSpec.ofChange writerKnownSpec)) writerKnownCard

/-- THE SECOND FORM's CARD OF 'hopscotchlaw31.TraceGets'. -/
def traceGetsUptoCard : Claim7 := { stood := { row := traceGetsUptoRow, standIns := [], harness := (true, "ca85974678bfb4be8fee1c2d32e2e37ae9ca3d60d17c9135ae7a0e1e2f8d6e70"), looks := true }, kinds := [], alts := [], laidByText := true, laidKinds := [.data, .data, .data, .data, .sentinel, .sentinel, .widerDeep, .pinned], laidTests := true, laidLooks := .later }
def TraceGetsUptoCardSaid : Prop := Claim7.holds Tryz.pinned (.plain (OpenSpec.upto traceGetsSpec)) traceGetsUptoCard

/-- THE SECOND FORM's CARD OF 'hopscotchlaw31.TraceKnown'. -/
def traceKnownUptoCard : Claim7 := { stood := { row := traceKnownUptoRow, standIns := [], harness := (true, "ca85974678bfb4be8fee1c2d32e2e37ae9ca3d60d17c9135ae7a0e1e2f8d6e70"), looks := true }, kinds := [], alts := [], laidByText := true, laidKinds := [.data, .data, .data, .data, .sentinel, .sentinel, .widerDeep, .pinned], laidTests := true, laidLooks := .later }
def TraceKnownUptoCardSaid : Prop := Claim7.holds Tryz.pinned (.plain (OpenSpec.upto traceKnownSpec)) traceKnownUptoCard

/-- THE SECOND FORM's CARD OF 'hopscotchlaw15.WriterOrder'. -/
def writerOrderUptoCard : Claim7 := { stood := { row := writerOrderUptoRow, standIns := [], harness := (true, "ca85974678bfb4be8fee1c2d32e2e37ae9ca3d60d17c9135ae7a0e1e2f8d6e70"), looks := true }, kinds := [], alts := [], laidByText := true, laidKinds := [.data, .data, .data, .data, .data, .widerDeep, .pinned], laidTests := true, laidLooks := .later }
def WriterOrderUptoCardSaid : Prop := Claim7.holds Tryz.pinned (.plain (OpenSpec.upto writerOrderSpec)) writerOrderUptoCard

/-- THE SECOND FORM's CARD OF 'hopscotchlaw15.WriterWrite'. -/
def writerWriteUptoCard : Claim7 := { stood := { row := writerWriteUptoRow, standIns := [], harness := (true, "ca85974678bfb4be8fee1c2d32e2e37ae9ca3d60d17c9135ae7a0e1e2f8d6e70"), looks := true }, kinds := [], alts := [], laidByText := true, laidKinds := [.data, .data, .data, .data, .data, .widerDeep, .pinned], laidTests := true, laidLooks := .later }
def WriterWriteUptoCardSaid : Prop := Claim7.holds Tryz.pinned (.plain (OpenSpec.upto writerWriteSpec)) writerWriteUptoCard

/-- THE SECOND FORM's CARD OF 'hopscotchlaw15.WriterApart'. -/
def writerApartUptoCard : Claim7 := { stood := { row := writerApartUptoRow, standIns := [], harness := (true, "ca85974678bfb4be8fee1c2d32e2e37ae9ca3d60d17c9135ae7a0e1e2f8d6e70"), looks := true }, kinds := [], alts := [], laidByText := true, laidKinds := [.data, .data, .data, .data, .data, .widerDeep, .pinned], laidTests := true, laidLooks := .later }
def WriterApartUptoCardSaid : Prop := Claim7.holds Tryz.pinned (.plain (OpenSpec.upto writerApartSpec)) writerApartUptoCard

/-- THE SECOND FORM's CARD OF 'hopscotchlaw05.TreeParse'. -/
def treeParseUptoCard : Claim7 := { stood := { row := treeParseUptoRow, standIns := [], harness := (true, "ca85974678bfb4be8fee1c2d32e2e37ae9ca3d60d17c9135ae7a0e1e2f8d6e70"), looks := true }, kinds := [], alts := [], laidByText := true, laidKinds := [.data, .data, .data, .data, .sentinel, .sentinel, .data, .pinned], laidTests := true, laidLooks := .later }
def TreeParseUptoCardSaid : Prop := Claim7.holds Tryz.pinned (.plain (OpenSpec.upto treeParseSpec)) treeParseUptoCard

/-- THE SECOND FORM's CARD OF 'hopscotchlaw05.TreeBack'. -/
def treeBackUptoCard : Claim7 := { stood := { row := treeBackUptoRow, standIns := [], harness := (true, "ca85974678bfb4be8fee1c2d32e2e37ae9ca3d60d17c9135ae7a0e1e2f8d6e70"), looks := true }, kinds := [], alts := [], laidByText := true, laidKinds := [.data, .data, .data, .data, .sentinel, .sentinel, .data, .pinned], laidTests := true, laidLooks := .later }
def TreeBackUptoCardSaid : Prop := Claim7.holds Tryz.pinned (.plain (OpenSpec.upto treeBackSpec)) treeBackUptoCard

/-- THE SECOND FORM's CARD OF 'hopscotchlaw05.TreeSame'. -/
def treeSameUptoCard : Claim7 := { stood := { row := treeSameUptoRow, standIns := [], harness := (true, "ca85974678bfb4be8fee1c2d32e2e37ae9ca3d60d17c9135ae7a0e1e2f8d6e70"), looks := true }, kinds := [], alts := [], laidByText := true, laidKinds := [.data, .data, .data, .data, .sentinel, .sentinel, .data, .pinned], laidTests := true, laidLooks := .later }
def TreeSameUptoCardSaid : Prop := Claim7.holds Tryz.pinned (.plain (OpenSpec.upto treeSameSpec)) treeSameUptoCard

/-- THE SECOND FORM's CARD OF 'hopscotchlaw05.TreeKnown'. -/
def treeKnownUptoCard : Claim7 := { stood := { row := treeKnownUptoRow, standIns := [], harness := (true, "ca85974678bfb4be8fee1c2d32e2e37ae9ca3d60d17c9135ae7a0e1e2f8d6e70"), looks := true }, kinds := [], alts := [], laidByText := true, laidKinds := [.data, .data, .data, .data, .sentinel, .sentinel, .data, .pinned], laidTests := true, laidLooks := .later }
def TreeKnownUptoCardSaid : Prop := Claim7.holds Tryz.pinned (.plain (OpenSpec.upto treeKnownSpec)) treeKnownUptoCard

/-- THE SECOND FORM's CARD OF 'hopscotchlaw15.WriterRight'. -/
def writerRightUptoCard : Claim7 := { stood := { row := writerRightUptoRow, standIns := [], harness := (true, "ca85974678bfb4be8fee1c2d32e2e37ae9ca3d60d17c9135ae7a0e1e2f8d6e70"), looks := true }, kinds := [], alts := [], laidByText := true, laidKinds := [.data, .data, .data, .data, .sentinel, .sentinel, .data, .widerDeep, .pinned], laidTests := true, laidLooks := .later }
def WriterRightUptoCardSaid : Prop := Claim7.holds Tryz.pinned (.plain (OpenSpec.upto writerRightSpec)) writerRightUptoCard

/-- THE SECOND FORM's CARD OF 'hopscotchlaw15.WriterKnown'. -/
def writerKnownUptoCard : Claim7 := { stood := { row := writerKnownUptoRow, standIns := [], harness := (true, "ca85974678bfb4be8fee1c2d32e2e37ae9ca3d60d17c9135ae7a0e1e2f8d6e70"), looks := true }, kinds := [], alts := [], laidByText := true, laidKinds := [.data, .data, .data, .data, .sentinel, .sentinel, .data, .widerDeep, .pinned], laidTests := true, laidLooks := .later }
def WriterKnownUptoCardSaid : Prop := Claim7.holds Tryz.pinned (.plain (OpenSpec.upto writerKnownSpec)) writerKnownUptoCard
end Rows
end Go.Proofs.YtncecbgpkoihpaaGreatDoor
