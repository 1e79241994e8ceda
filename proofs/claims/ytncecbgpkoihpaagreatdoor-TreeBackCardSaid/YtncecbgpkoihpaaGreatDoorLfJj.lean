/- The closed facts that the row and the card of this law want of the program: each by itself. -/
import Derived.Test.YtncecbgpkoihpaaGreatDoorTie
import Derived.Test.YtncecbgpkoihpaaGreatDoorCards
import Derived.SevenTiedAt
import Derived.ProofKit
import Derived.JoinedOf
namespace Go.Proofs.YtncecbgpkoihpaaGreatDoor
open Go.ChangeShapes Go.WideShapes Go.ChangeAt Go.RowKit Go.WideMaps Go.WideElems
set_option maxRecDepth 100000
theorem zfi : laidOutB Tryz.prog = true := by kernel_rfl
theorem zfj : mapsRowed Tryz.prog = true := by kernel_rfl
theorem zfk : Tryz.prog.plainKeys = Rows.treeSameRow.plainKeys := by kernel_rfl
theorem zfl : Tryz.prog.stopsHeard = true := by kernel_rfl
theorem zfm : Tryz.prog.mayEnter = true := by kernel_rfl
theorem zdm : Tryz.prog.stops = [] := by kernel_rfl
theorem zdn : Tryz.prog.stopKnobs = [] := by kernel_rfl
theorem zdo : Tryz.prog.liftsFinal = Rows.treeSameRow.lifted := by kernel_rfl
theorem zdp : Tryz.prog.make = some Rows.treeSameRow.make := by kernel_rfl
theorem zfn : Tryz.prog.mainIs = some (true, "ca85974678bfb4be8fee1c2d32e2e37ae9ca3d60d17c9135ae7a0e1e2f8d6e70".toList) := by kernel_rfl
theorem zfo : true = Tryz.prog.looks [] := by kernel_rfl
end Go.Proofs.YtncecbgpkoihpaaGreatDoor
namespace Go.Proofs.YtncecbgpkoihpaaGreatDoor
open Go.ChangeShapes Go.WideShapes Go.ChangeAt Go.RowKit Go.WideMaps Go.WideElems
set_option maxRecDepth 100000
theorem zfp : Tryz.prog.inPlace 9 = Rows.treeBackRow.inPlace := by kernel_rfl
theorem zfq : Tryz.prog.unfollowed 9 = Rows.treeBackRow.unfollowed := by kernel_rfl
theorem zfr : Tryz.prog.recurses 9 = Rows.treeBackRow.recurses := by kernel_rfl
theorem zfs : Tryz.prog.varsNamed 9 = Rows.treeBackRow.named := by kernel_rfl
theorem zft : Tryz.prog.plainKeys = Rows.treeBackRow.plainKeys := zfk
theorem zdq : Rows.treeBackRow.veiledFits Tryz.prog Tryz.f9.params.toList (Tryz.f9.params.toList ++ Rows.treeBackSpec.plain.varTypes Tryz.prog ++ Tryz.f9.resultTypes.toList) = true := by kernel_rfl
theorem zdr : Tryz.prog.liftsFinal = Rows.treeBackRow.lifted := zdo
theorem zds : Tryz.prog.make = some Rows.treeBackRow.make := zdp
theorem zao : joinedFacts Tryz.prog 9 Tryz.f9 Rows.treeBackSpec Rows.treeBackRow = true := by
 unfold joinedFacts
 rw [zfp, zfq, zfr, zfs, zfi, zfj, zft, zfl, zfm, zdq, zdm, zdn, zdr, zds]
 kernel_rfl
theorem treeBack_k1 : Tryz.prog.funcNamed "hopscotch/hopscotchlaw05.TreeBack" = some 9 := by kernel_rfl
theorem zfu : Rows.treeBackRow.wfByText (OpenSpec.ofChange Rows.treeBackSpec) = true := by kernel_rfl
theorem zfv : false = Rows.treeBackRow.goesBy Tryz.prog := by kernel_rfl
end Go.Proofs.YtncecbgpkoihpaaGreatDoor
