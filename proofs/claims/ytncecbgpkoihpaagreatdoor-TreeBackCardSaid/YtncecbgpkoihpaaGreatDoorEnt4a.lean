/- the reference's UTF-8: Put, number, Next, Valid. -/
import Derived.Test.YtncecbgpkoihpaaGreatDoorEntAll
import Derived.Laws.BytesArg
import Derived.IntWalk
import Derived.Lib.IndexBytes
namespace Go.Proofs.YtncecbgpkoihpaaGreatDoor
open Go.RowKit Go.Lib
attribute [local go_sem ↓] Go.wp_at_zero Go.wp_at_succ
end Go.Proofs.YtncecbgpkoihpaaGreatDoor
namespace Go.Proofs.YtncecbgpkoihpaaGreatDoor
open Go.RowKit Go.Lib
attribute [local go_sem ↓] Go.wp_at_zero Go.wp_at_succ
theorem zkr {a b : ByteArray} (h : a.data.toList = b.data.toList) : a = b := by
 have : a.data = b.data := Array.toList_inj.1 h
 cases a; cases b; simp_all
end Go.Proofs.YtncecbgpkoihpaaGreatDoor
