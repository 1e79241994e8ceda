/-
  DERIVED. GIVEN WITH THE SEED: THE CARDS: each row of YtalbehjjgdedcaaDoorRows.lean that lists a variable, with what it lists TIED to the program's text (the seventh form; the later family's looks); each row that meets fmt, with fmt's text TOLD by the authors' own Lean function (tested against real Go, not proved from fmt's source: count such statements apart). THE CARD IS WHAT COUNTS. Prove the row's statement (the work); the ties are given (YtalbehjjgdedcaaDoorTie.lean); close each card by the builder's one call (the guide's Derived/Test/ToyasCard.lean, 'card_holds'). Laid BY PROGRAM, IN A SANDBOX (cutbox-door.mjs). By AI agents, Wed Nov 11 2026. No macro, syntax, notation, axiom, sorry.
-/
import Derived.Test.YtalbehjjgdedcaaDoorRows
import GoSem.ClaimSeven
namespace Go.Proofs.YtalbehjjgdedcaaDoor
namespace Rows

/-- THE TIED CARD OF 'hopscotchlaw04.TokenOrder'. -/
def tokenOrderCard : Claim7 := { stood := { row := tokenOrderRow, standIns := [], harness := (true, "a022666a325f4d42c98d91ed32f97587de3a038acf7708b16394e08a1817981e"), looks := true }, kinds := [], alts := [], laidByText := true, laidKinds := [.data, .data, .data, .data, .sentinel, .sentinel, .data, .pinned], laidTests := true, laidLooks := .later }
def TokenOrderCardSaid : Prop := Claim7.holds Tryd.pinned (.plain (OpenSpec.ofChange tokenOrderSpec)) tokenOrderCard

/-- THE SECOND FORM's CARD OF 'hopscotchlaw04.TokenOrder'. -/
def tokenOrderUptoCard : Claim7 := { stood := { row := tokenOrderUptoRow, standIns := [], harness := (true, "a022666a325f4d42c98d91ed32f97587de3a038acf7708b16394e08a1817981e"), looks := true }, kinds := [], alts := [], laidByText := true, laidKinds := [.data, .data, .data, .data, .sentinel, .sentinel, .data, .pinned], laidTests := true, laidLooks := .later }
def TokenOrderUptoCardSaid : Prop := Claim7.holds Tryd.pinned (.plain (OpenSpec.upto tokenOrderSpec)) tokenOrderUptoCard
end Rows
end Go.Proofs.YtalbehjjgdedcaaDoor
