/- The closed facts that the row and the card of this law want of the program: each by itself. -/
import Derived.Test.YtpjodoipceddpaaGreatDoorTie
import Derived.Test.YtpjodoipceddpaaGreatDoorCards
import Derived.SevenTiedAt
import Derived.ProofKit
import Derived.JoinedOf
namespace Go.Proofs.YtpjodoipceddpaaGreatDoor
open Go.ChangeShapes Go.WideShapes Go.ChangeAt Go.RowKit Go.WideMaps Go.WideElems
set_option maxRecDepth 100000
theorem traceKnown_j1 :Tryz.prog.inPlace 4=Rows.traceKnownRow.inPlace:=by kernel_rfl
theorem traceKnown_j2 :Tryz.prog.unfollowed 4=Rows.traceKnownRow.unfollowed:=by kernel_rfl
theorem traceKnown_j3 :Tryz.prog.recurses 4=Rows.traceKnownRow.recurses:=by kernel_rfl
theorem traceKnown_j4 :Tryz.prog.varsNamed 4=Rows.traceKnownRow.named:=by kernel_rfl
theorem traceKnown_j5 :laidOutB Tryz.prog=true:=by kernel_rfl
theorem traceKnown_j6 :mapsRowed Tryz.prog=true:=by kernel_rfl
theorem traceKnown_j7 :Tryz.prog.plainKeys=Rows.traceKnownRow.plainKeys:=by kernel_rfl
theorem traceKnown_j8 :Tryz.prog.stopsHeard=true:=by kernel_rfl
theorem traceKnown_j9 :Tryz.prog.mayEnter=true:=by kernel_rfl
theorem traceKnown_j10 :Rows.traceKnownRow.veiledFits Tryz.prog Tryz.f4.params.toList (Tryz.f4.params.toList++Rows.traceKnownSpec.plain.varTypes Tryz.prog++Tryz.f4.resultTypes.toList)=true:=by kernel_rfl
theorem traceKnown_j11 :Tryz.prog.stops=[]:=by kernel_rfl
theorem traceKnown_j12 :Tryz.prog.stopKnobs=[]:=by kernel_rfl
theorem traceKnown_j13 :Tryz.prog.liftsFinal=Rows.traceKnownRow.lifted:=by kernel_rfl
theorem traceKnown_j14 :Tryz.prog.make=some Rows.traceKnownRow.make:=by kernel_rfl
theorem traceKnown_facts :joinedFacts Tryz.prog 4 Tryz.f4 Rows.traceKnownSpec Rows.traceKnownRow=true:=by
 unfold joinedFacts
 rw[traceKnown_j1,traceKnown_j2,traceKnown_j3,traceKnown_j4,traceKnown_j5,traceKnown_j6,traceKnown_j7,traceKnown_j8,traceKnown_j9,traceKnown_j10,traceKnown_j11,traceKnown_j12,traceKnown_j13,traceKnown_j14]
 kernel_rfl
theorem traceKnown_k1 :Tryz.prog.funcNamed "hopscotch/hopscotchlaw31.TraceKnown" =some 4:=by kernel_rfl
theorem traceKnown_k2 :Rows.traceKnownRow.wfByText (OpenSpec.ofChange Rows.traceKnownSpec)=true:=by kernel_rfl
theorem traceKnown_k3 :Tryz.prog.mainIs=some (true, "21720be49ddcc783d4cf018133be8ebeeed6ad20c8d0bf66d1323431184c1094".toList):=by kernel_rfl
theorem traceKnown_k4 :true=Tryz.prog.looks []:=by kernel_rfl
theorem traceKnown_k5 :false=Rows.traceKnownRow.goesBy Tryz.prog:=by kernel_rfl
end Go.Proofs.YtpjodoipceddpaaGreatDoor
