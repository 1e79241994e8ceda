/- What is parsed is right; what is written is parsed as the same, and written so again; and the chapter's examples hold. No condition on the input: every text, every value; the world as the row's form has it (the listed variables tied to the program's text). -/
import Derived.Test.YtncecbgpkoihpaaGreatDoorLfSb
import Derived.Test.YtncecbgpkoihpaaGreatDoorLfJj
import Derived.Test.YtncecbgpkoihpaaGreatDoorTie
import Derived.Test.YtncecbgpkoihpaaGreatDoorCards
import Derived.SevenTiedAt
namespace Go.Proofs.YtncecbgpkoihpaaGreatDoor
open Go.ChangeShapes Go.WideShapes Go.ChangeAt Go.RowKit Go.WideMaps Go.WideElems
open Go.ChangeMaps (setBlock shut_map_nil open_string shut_string keptBut_setBlock frozen?_setBlock heap_setBlock_same)
set_option linter.unusedVariables false
theorem zc7 : Rows.TreeBackSaid :=
 OpenClaim.holds_of_wide 9 Tryz.f9 rfl rfl rfl rfl rfl rfl rfl ⟨rfl, rfl, rfl, rfl, rfl⟩ rfl rfl rfl rfl rfl treeBack_k1 Tryz.func9 zao
  (of_decide_eq_true (by kernel_rfl)) (by unfold Func.isWrapper; rw [if_neg (of_decide_eq_false (by kernel_rfl))]; exact ⟨rfl, rfl⟩)
  (fun os started H enc _ => z9v os started H enc)
theorem treeBack_holds : Rows.TreeBackCardSaid :=
 Claim7.holds_tied_plain_at .later [] [.data, .data, .data, .data, .sentinel, .sentinel, .data, .pinned] true (true, "ca85974678bfb4be8fee1c2d32e2e37ae9ca3d60d17c9135ae7a0e1e2f8d6e70") true
  zc7 (fun _ h => by cases h) zfu (fun _ h => by cases h) treeBack_row_tie rfl ⟨rfl, rfl⟩ zfn rfl
  (fun f fn hf hfn => by
   obtain rfl : f = 9 := Option.some.inj (treeBack_k1.symm.trans hf) |>.symm
   obtain rfl : fn = Tryz.f9 := (Option.some.inj (Tryz.func9.symm.trans hfn)).symm
   exact ⟨zfo, fun j t ht => by
    rw [Tryz.params9] at ht
    have h3 : t = 9 ∨ t = 75 := by
     rcases j with _ | _ | j <;> simp at ht
     · simp [← ht]
     · simp [← ht]
    rcases h3 with rfl | rfl
    · exact (show Tryz.prog.wantsStandIn 9 = false by kernel_rfl)
    · exact (show Tryz.prog.wantsStandIn 75 = false by kernel_rfl)⟩)
  zfv
end Go.Proofs.YtncecbgpkoihpaaGreatDoor
