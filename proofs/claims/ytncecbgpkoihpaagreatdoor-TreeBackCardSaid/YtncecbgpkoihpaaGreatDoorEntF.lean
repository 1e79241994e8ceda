/- the reference's entity layer: begins, digit, number, Reference, Decode, Encode. -/
import Derived.Test.YtncecbgpkoihpaaGreatDoorEnt4a
import Derived.Test.YtncecbgpkoihpaaGreatDoorEntBc
namespace Go.Proofs.YtncecbgpkoihpaaGreatDoor
open Go.RowKit Go.Lib
attribute [local go_sem ↓] Go.wp_at_zero Go.wp_at_succ
theorem zh8 (a b : ByteArray) : (a ++ b).data.toList = a.data.toList ++ b.data.toList := by simp
theorem zrj {a b : UInt8} (h : a ≠ b) : ¬ (a.toNat : Int) = b.toNat := fun e => h (UInt8.toNat_inj.1 (by omega))
end Go.Proofs.YtncecbgpkoihpaaGreatDoor
