/- The closed facts that the row and the card of this law want of the program: each by itself. -/
import Derived.Test.YtpjodoipceddpaaGreatDoorTie
import Derived.Test.YtpjodoipceddpaaGreatDoorCards
import Derived.SevenTiedAt
import Derived.ProofKit
import Derived.JoinedOf
namespace Go.Proofs.YtpjodoipceddpaaGreatDoor
open Go.ChangeShapes Go.WideShapes Go.ChangeAt Go.RowKit Go.WideMaps Go.WideElems
set_option maxRecDepth 100000
theorem traceGets_j1 : Tryz.prog.inPlace 3 = Rows.traceGetsRow.inPlace := by kernel_rfl
theorem traceGets_j2 : Tryz.prog.unfollowed 3 = Rows.traceGetsRow.unfollowed := by kernel_rfl
theorem traceGets_j3 : Tryz.prog.recurses 3 = Rows.traceGetsRow.recurses := by kernel_rfl
theorem traceGets_j4 : Tryz.prog.varsNamed 3 = Rows.traceGetsRow.named := by kernel_rfl
theorem traceGets_j5 : laidOutB Tryz.prog = true := by kernel_rfl
theorem traceGets_j6 : mapsRowed Tryz.prog = true := by kernel_rfl
theorem traceGets_j7 : Tryz.prog.plainKeys = Rows.traceGetsRow.plainKeys := by kernel_rfl
theorem traceGets_j8 : Tryz.prog.stopsHeard = true := by kernel_rfl
theorem traceGets_j9 : Tryz.prog.mayEnter = true := by kernel_rfl
theorem traceGets_j10 : Rows.traceGetsRow.veiledFits Tryz.prog Tryz.f3.params.toList (Tryz.f3.params.toList ++ Rows.traceGetsSpec.plain.varTypes Tryz.prog ++ Tryz.f3.resultTypes.toList) = true := by kernel_rfl
theorem traceGets_j11 : Tryz.prog.stops = [] := by kernel_rfl
theorem traceGets_j12 : Tryz.prog.stopKnobs = [] := by kernel_rfl
theorem traceGets_j13 : Tryz.prog.liftsFinal = Rows.traceGetsRow.lifted := by kernel_rfl
theorem traceGets_j14 : Tryz.prog.make = some Rows.traceGetsRow.make := by kernel_rfl
theorem traceGets_facts : joinedFacts Tryz.prog 3 Tryz.f3 Rows.traceGetsSpec Rows.traceGetsRow = true := by
 unfold joinedFacts
 rw [traceGets_j1, traceGets_j2, traceGets_j3, traceGets_j4, traceGets_j5, traceGets_j6, traceGets_j7, traceGets_j8, traceGets_j9, traceGets_j10, traceGets_j11, traceGets_j12, traceGets_j13, traceGets_j14]
 kernel_rfl
theorem traceGets_k1 : Tryz.prog.funcNamed "hopscotch/hopscotchlaw31.TraceGets" = some 3 := by kernel_rfl
theorem traceGets_k2 : Rows.traceGetsRow.wfByText (OpenSpec.ofChange Rows.traceGetsSpec) = true := by kernel_rfl
theorem traceGets_k3 : Tryz.prog.mainIs = some (true, "21720be49ddcc783d4cf018133be8ebeeed6ad20c8d0bf66d1323431184c1094".toList) := by kernel_rfl
theorem traceGets_k4 : true = Tryz.prog.looks [] := by kernel_rfl
theorem traceGets_k5 : false = Rows.traceGetsRow.goesBy Tryz.prog := by kernel_rfl
end Go.Proofs.YtpjodoipceddpaaGreatDoor
