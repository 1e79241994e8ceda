/-
  DERIVED. GIVEN WITH THE SEED: THE CARDS: each row of YtpjodoipceddpaaGreatDoorRows.lean that lists a variable, with what it lists TIED to the program's text (the seventh form; the later family's looks); each row that meets fmt, with fmt's text TOLD by the authors' own Lean function (tested against real Go, not proved from fmt's source: count such statements apart). THE CARD IS WHAT COUNTS. Prove the row's statement (the work); the ties are given (YtpjodoipceddpaaGreatDoorTie.lean); close each card by the builder's one call (the guide's Derived/Test/ToyasCard.lean, 'card_holds'). Laid BY PROGRAM, IN A SANDBOX (cutbox-door.mjs). By AI agents, Wed Nov 11 2026. No macro, syntax, notation, axiom, sorry.
-/
import Derived.Test.YtpjodoipceddpaaGreatDoorRows
import GoSem.ClaimSeven
namespace Go.Proofs.YtpjodoipceddpaaGreatDoor
namespace Rows

/-- THE TIED CARD OF 'hopscotchlaw31.TraceGets'. -/
def traceGetsCard : Claim7 := { stood := { row := traceGetsRow, standIns := [], harness := (true, "21720be49ddcc783d4cf018133be8ebeeed6ad20c8d0bf66d1323431184c1094"), looks := true }, kinds := [], alts := [], laidByText := true, laidKinds := [.data, .data, .data, .data, .sentinel, .sentinel, .widerDeep, .pinned], laidTests := true, laidLooks := .later }
def TraceGetsCardSaid : Prop := Claim7.holds Tryz.pinned (.plain (OpenSpec.ofChange traceGetsSpec)) traceGetsCard

/-- THE TIED CARD OF 'hopscotchlaw31.TraceKnown'. -/
def traceKnownCard : Claim7 := { stood := { row := traceKnownRow, standIns := [], harness := (true, "21720be49ddcc783d4cf018133be8ebeeed6ad20c8d0bf66d1323431184c1094"), looks := true }, kinds := [], alts := [], laidByText := true, laidKinds := [.data, .data, .data, .data, .sentinel, .sentinel, .widerDeep, .pinned], laidTests := true, laidLooks := .later }
def TraceKnownCardSaid : Prop := Claim7.holds Tryz.pinned (.plain (OpenSpec.ofChange traceKnownSpec)) traceKnownCard

/-- THE SECOND FORM's CARD OF 'hopscotchlaw31.TraceGets'. -/
def traceGetsUptoCard : Claim7 := { stood := { row := traceGetsUptoRow, standIns := [], harness := (true, "21720be49ddcc783d4cf018133be8ebeeed6ad20c8d0bf66d1323431184c1094"), looks := true }, kinds := [], alts := [], laidByText := true, laidKinds := [.data, .data, .data, .data, .sentinel, .sentinel, .widerDeep, .pinned], laidTests := true, laidLooks := .later }
def TraceGetsUptoCardSaid : Prop := Claim7.holds Tryz.pinned (.plain (OpenSpec.upto traceGetsSpec)) traceGetsUptoCard

/-- THE SECOND FORM's CARD OF 'hopscotchlaw31.TraceKnown'. -/
def traceKnownUptoCard : Claim7 := { stood := { row := traceKnownUptoRow, standIns := [], harness := (true, "21720be49ddcc783d4cf018133be8ebeeed6ad20c8d0bf66d1323431184c1094"), looks := true }, kinds := [], alts := [], laidByText := true, laidKinds := [.data, .data, .data, .data, .sentinel, .sentinel, .widerDeep, .pinned], laidTests := true, laidLooks := .later }
def TraceKnownUptoCardSaid : Prop := Claim7.holds Tryz.pinned (.plain (OpenSpec.upto traceKnownSpec)) traceKnownUptoCard
end Rows
end Go.Proofs.YtpjodoipceddpaaGreatDoor
