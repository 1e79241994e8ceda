/- tree: what the abstract walks of layer 5's reference and law lean on: attributes, compared. -/
import Derived.Test.YtncecbgpkoihpaaGreatDoorAwThr
import Derived.Test.YtncecbgpkoihpaaGreatDoorProg
import Derived.RowKit
import Derived.Test.YtncecbgpkoihpaaGreatDoorTrePq
import Derived.Laws.StructEq
import Derived.Shelf.SlicesE.Kit
namespace Go.Proofs.YtncecbgpkoihpaaGreatDoor.Aw
open Go.RowKit Go.Lib
def encA (a : z07) : List AV := [.sc (.string a.1), .sc (.string a.2)]
def encN (x : NodeM) : List AV := [.sc (.string x.name), .ro (x.attrs.map encA), .sc (.string x.text), .sc (.int .i64 x.parent), .sc (.int .i64 x.first), .sc (.int .i64 x.next), .sc (.int .i64 x.at_)]
def z8c (n : Nat) : List AV := List.replicate n .dead
def sp0 : Spec := ⟨fun _ _ => none, fun t a b => if t = 171 then (match a, b with
 | [.string x, .string y], [.string x', .string y'] => some (decide (x = x') && decide (y = y'))
 | _, _ => none) else none⟩
theorem zcu {x y x' y' : ByteArray} : sp0.eqs 171 [.string x, .string y] [.string x', .string y'] = some (decide (x = x') && decide (y = y')) := by simp [sp0]
theorem zsb (a b c d : ByteArray) (w : World) : (Op.equal 171 (.agg #[.string a, .string b]) (.agg #[.string c, .string d])).run Tryz.prog w = .ok (decide (a = c) && decide (b = d)) w := by
 have u3 := Tryz.underlying9
 have a3 := Tryz.isAgg9
 have z3 := Tryz.sizeOf9
 have hS : Tryz.prog.underlying 171 = some (.struct (Tryz.prog.fieldsOf 171)) := by kernel_rfl
 have hp : Tryz.prog.stoodInHeld 171 = false := by kernel_rfl
 show (Op.equalIn (9999 + 1) 171 _ _).run Tryz.prog w = _
 rw [run_equalIn_agg w 9999 171 _ _ hS hp]
 simp only [Program.fieldsOf, Tryz.underlying171]
 rw [← bytes_beq, ← bytes_beq]
 go_simp
 by_cases h1 : a.toList = c.toList <;> by_cases h2 : b.toList = d.toList <;> simp [h1, h2]
theorem zpz : zni Tryz.prog sp0 := fun t a b r h w => by
 unfold sp0 at h
 simp only at h
 split at h <;> try (cases h; done)
 rename_i ht
 subst ht
 split at h <;> try (cases h; done)
 cases h
 exact ⟨fun op x y => run_eqGuard_agg w op 171 x y _ _ (by kernel_rfl), zsb _ _ _ _ w⟩
theorem zt8 (w : World) : SpecOk Tryz.prog sp0 w (fun _ => False) := ⟨zpz, fun f args c r rs h => by cases h⟩
end Go.Proofs.YtncecbgpkoihpaaGreatDoor.Aw
