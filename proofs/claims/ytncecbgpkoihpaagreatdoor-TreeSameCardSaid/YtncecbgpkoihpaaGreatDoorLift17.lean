/- Of any two trees it is told whether they are the same but for places in the text; and the chapter's examples hold. No condition on the input: every text, every value; the world as the row's form has it (the listed variables tied to the program's text). -/
import Derived.Test.YtncecbgpkoihpaaGreatDoorLfS
import Derived.Test.YtncecbgpkoihpaaGreatDoorLfJs
import Derived.Test.YtncecbgpkoihpaaGreatDoorTie
import Derived.Test.YtncecbgpkoihpaaGreatDoorCards
import Derived.SevenTiedAt
namespace Go.Proofs.YtncecbgpkoihpaaGreatDoor
open Go.ChangeShapes Go.WideShapes Go.ChangeAt Go.RowKit Go.WideMaps Go.WideElems
open Go.ChangeMaps (setBlock shut_map_nil open_string shut_string keptBut_setBlock frozen?_setBlock heap_setBlock_same)
set_option linter.unusedVariables false
theorem treeSame_said : Rows.TreeSameSaid :=
 OpenClaim.holds_of_wide 10 Tryz.f10 rfl rfl rfl rfl rfl rfl rfl ⟨rfl, rfl, rfl, rfl, rfl⟩ rfl rfl rfl rfl rfl treeSame_k1 Tryz.func10 treeSame_facts
  (of_decide_eq_true (by kernel_rfl)) (by unfold Func.isWrapper; rw [if_neg (of_decide_eq_false (by kernel_rfl))]; exact ⟨rfl, rfl⟩)
  (fun os started H enc _ => treeSame_lifted os started H enc)
theorem treeSame_holds : Rows.TreeSameCardSaid :=
 Claim7.holds_tied_plain_at .later [] [.data, .data, .data, .data, .sentinel, .sentinel, .data, .pinned] true (true, "ca85974678bfb4be8fee1c2d32e2e37ae9ca3d60d17c9135ae7a0e1e2f8d6e70") true
  treeSame_said (fun _ h => by cases h) treeSame_k2 (fun _ h => by cases h) treeSame_row_tie rfl ⟨rfl, rfl⟩ treeSame_k3 rfl
  (fun f fn hf hfn => by
   obtain rfl : f = 10 := Option.some.inj (treeSame_k1.symm.trans hf) |>.symm
   obtain rfl : fn = Tryz.f10 := (Option.some.inj (Tryz.func10.symm.trans hfn)).symm
   exact ⟨treeSame_k4, fun j t ht => by
    rw [Tryz.params10] at ht
    have h3 : t = 75 := by
     rcases j with _ | _ | j <;> simp at ht
     · simp [← ht]
     · simp [← ht]
    subst h3
    exact (show Tryz.prog.wantsStandIn 75 = false by kernel_rfl)⟩)
  treeSame_k5
end Go.Proofs.YtncecbgpkoihpaaGreatDoor
