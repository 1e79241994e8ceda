/- the reference's entity layer: Decode, Encode. -/
import Derived.Test.YtncecbgpkoihpaaGreatDoorEntF
namespace Go.Proofs.YtncecbgpkoihpaaGreatDoor
open Go.RowKit Go.Lib
attribute [local go_sem ↓] Go.wp_at_zero Go.wp_at_succ
def wp2 (r : List UInt8 × Int) : Value := .tuple #[.string ⟨r.1.toArray⟩, .int .i64 r.2]
theorem zrk (attr : Bool) (b : UInt8) : (escL attr b).length ≤ 6 := by
 unfold escL
 repeat' split
 all_goals simp
theorem zrl (attr : Bool) (l : List UInt8) : (encL attr l).length ≤ 6 * l.length := by
 induction l with
 | nil => simp [encL]
 | cons b l ih =>
   unfold encL at ih ⊢
   rw [List.flatMap_cons, List.length_append, List.length_cons]
   have := zrk attr b
   omega
theorem bn {b c : UInt8} (h : b ≠ c) : ¬ ((b.toNat : Int)) = (c.toNat : Int) := zrj h
end Go.Proofs.YtncecbgpkoihpaaGreatDoor
