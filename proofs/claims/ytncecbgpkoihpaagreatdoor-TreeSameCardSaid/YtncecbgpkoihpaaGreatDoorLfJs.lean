/- The closed facts that the row and the card of this law want of the program: each by itself. -/
import Derived.Test.YtncecbgpkoihpaaGreatDoorTie
import Derived.Test.YtncecbgpkoihpaaGreatDoorCards
import Derived.SevenTiedAt
import Derived.ProofKit
import Derived.JoinedOf
namespace Go.Proofs.YtncecbgpkoihpaaGreatDoor
open Go.ChangeShapes Go.WideShapes Go.ChangeAt Go.RowKit Go.WideMaps Go.WideElems
set_option maxRecDepth 100000
theorem treeSame_j1 : Tryz.prog.inPlace 10 = Rows.treeSameRow.inPlace := by kernel_rfl
theorem treeSame_j2 : Tryz.prog.unfollowed 10 = Rows.treeSameRow.unfollowed := by kernel_rfl
theorem treeSame_j3 : Tryz.prog.recurses 10 = Rows.treeSameRow.recurses := by kernel_rfl
theorem treeSame_j4 : Tryz.prog.varsNamed 10 = Rows.treeSameRow.named := by kernel_rfl
theorem treeSame_j5 : laidOutB Tryz.prog = true := by kernel_rfl
theorem treeSame_j6 : mapsRowed Tryz.prog = true := by kernel_rfl
theorem treeSame_j7 : Tryz.prog.plainKeys = Rows.treeSameRow.plainKeys := by kernel_rfl
theorem treeSame_j8 : Tryz.prog.stopsHeard = true := by kernel_rfl
theorem treeSame_j9 : Tryz.prog.mayEnter = true := by kernel_rfl
theorem treeSame_j10 : Rows.treeSameRow.veiledFits Tryz.prog Tryz.f10.params.toList (Tryz.f10.params.toList ++ Rows.treeSameSpec.plain.varTypes Tryz.prog ++ Tryz.f10.resultTypes.toList) = true := by kernel_rfl
theorem treeSame_j11 : Tryz.prog.stops = [] := by kernel_rfl
theorem treeSame_j12 : Tryz.prog.stopKnobs = [] := by kernel_rfl
theorem treeSame_j13 : Tryz.prog.liftsFinal = Rows.treeSameRow.lifted := by kernel_rfl
theorem treeSame_j14 : Tryz.prog.make = some Rows.treeSameRow.make := by kernel_rfl
theorem treeSame_facts : joinedFacts Tryz.prog 10 Tryz.f10 Rows.treeSameSpec Rows.treeSameRow = true := by
 unfold joinedFacts
 rw [treeSame_j1, treeSame_j2, treeSame_j3, treeSame_j4, treeSame_j5, treeSame_j6, treeSame_j7, treeSame_j8, treeSame_j9, treeSame_j10, treeSame_j11, treeSame_j12, treeSame_j13, treeSame_j14]
 kernel_rfl
theorem treeSame_k1 : Tryz.prog.funcNamed "hopscotch/hopscotchlaw05.TreeSame" = some 10 := by kernel_rfl
theorem treeSame_k2 : Rows.treeSameRow.wfByText (OpenSpec.ofChange Rows.treeSameSpec) = true := by kernel_rfl
theorem treeSame_k3 : Tryz.prog.mainIs = some (true, "ca85974678bfb4be8fee1c2d32e2e37ae9ca3d60d17c9135ae7a0e1e2f8d6e70".toList) := by kernel_rfl
theorem treeSame_k4 : true = Tryz.prog.looks [] := by kernel_rfl
theorem treeSame_k5 : false = Rows.treeSameRow.goesBy Tryz.prog := by kernel_rfl
end Go.Proofs.YtncecbgpkoihpaaGreatDoor
