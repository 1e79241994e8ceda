/-
  DERIVED. GIVEN WITH THE SEED: THE CARDS: each row of YtlmgckgblkndmaaDoorRows.lean that lists a variable, with what it lists TIED to the program's text (the seventh form; the later family's looks); each row that meets fmt, with fmt's text TOLD by the authors' own Lean function (tested against real Go, not proved from fmt's source: count such statements apart). THE CARD IS WHAT COUNTS. Prove the row's statement (the work); the ties are given (YtlmgckgblkndmaaDoorTie.lean); close each card by the builder's one call (the guide's Derived/Test/ToyasCard.lean, 'card_holds'). Laid BY PROGRAM, IN A SANDBOX (cutbox-door.mjs). By AI agents, Wed Nov 11 2026. No macro, syntax, notation, axiom, sorry.
-/
import Derived.Test.YtlmgckgblkndmaaDoorRows
import GoSem.ClaimSeven
namespace Go.Proofs.YtlmgckgblkndmaaDoor
namespace Rows

/-- THE TIED CARD OF 'hopscotchlaw03.EntityDecode'. -/
def entityDecodeCard : Claim7 := { stood := { row := entityDecodeRow, standIns := [], harness := (true, "839d3d82dedd2f047db1ec1ddb30ec01faafbb999875f7780d0545fa3cecb378"), looks := true }, kinds := [], alts := [], laidByText := true, laidKinds := [.data, .data, .data, .sentinel, .sentinel, .data], laidTests := true, laidLooks := .later }
def EntityDecodeCardSaid : Prop := Claim7.holds Tryd.pinned (.plain (OpenSpec.ofChange entityDecodeSpec)) entityDecodeCard

/-- THE TIED CARD OF 'hopscotchlaw03.EntityEncode'. -/
def entityEncodeCard : Claim7 := { stood := { row := entityEncodeRow, standIns := [], harness := (true, "839d3d82dedd2f047db1ec1ddb30ec01faafbb999875f7780d0545fa3cecb378"), looks := true }, kinds := [], alts := [], laidByText := true, laidKinds := [.data, .data, .data, .sentinel, .sentinel, .data], laidTests := true, laidLooks := .later }
def EntityEncodeCardSaid : Prop := Claim7.holds Tryd.pinned (.plain (OpenSpec.ofChange entityEncodeSpec)) entityEncodeCard

/-- THE TIED CARD OF 'hopscotchlaw03.EntityBack'. -/
def entityBackCard : Claim7 := { stood := { row := entityBackRow, standIns := [], harness := (true, "839d3d82dedd2f047db1ec1ddb30ec01faafbb999875f7780d0545fa3cecb378"), looks := true }, kinds := [], alts := [], laidByText := true, laidKinds := [.data, .data, .data, .sentinel, .sentinel, .data], laidTests := true, laidLooks := .later }
def EntityBackCardSaid : Prop := Claim7.holds Tryd.pinned (.plain (OpenSpec.ofChange entityBackSpec)) entityBackCard

/-- THE TIED CARD OF 'hopscotchlaw03.EntityPieces'. -/
def entityPiecesCard : Claim7 := { stood := { row := entityPiecesRow, standIns := [], harness := (true, "839d3d82dedd2f047db1ec1ddb30ec01faafbb999875f7780d0545fa3cecb378"), looks := true }, kinds := [], alts := [], laidByText := true, laidKinds := [.data, .data, .data, .sentinel, .sentinel, .data], laidTests := true, laidLooks := .later }
def EntityPiecesCardSaid : Prop := Claim7.holds Tryd.pinned (.plain (OpenSpec.ofChange entityPiecesSpec)) entityPiecesCard

/-- THE TIED CARD OF 'hopscotchlaw03.EntityKnown'. -/
def entityKnownCard : Claim7 := { stood := { row := entityKnownRow, standIns := [], harness := (true, "839d3d82dedd2f047db1ec1ddb30ec01faafbb999875f7780d0545fa3cecb378"), looks := true }, kinds := [], alts := [], laidByText := true, laidKinds := [.data, .data, .data, .sentinel, .sentinel, .data], laidTests := true, laidLooks := .later }
def EntityKnownCardSaid : Prop := Claim7.holds Tryd.pinned (.plain (OpenSpec.ofChange entityKnownSpec)) entityKnownCard

/-- THE SECOND FORM's CARD OF 'hopscotchlaw03.EntityDecode'. -/
def entityDecodeUptoCard : Claim7 := { stood := { row := entityDecodeUptoRow, standIns := [], harness := (true, "839d3d82dedd2f047db1ec1ddb30ec01faafbb999875f7780d0545fa3cecb378"), looks := true }, kinds := [], alts := [], laidByText := true, laidKinds := [.data, .data, .data, .sentinel, .sentinel, .data], laidTests := true, laidLooks := .later }
def EntityDecodeUptoCardSaid : Prop := Claim7.holds Tryd.pinned (.plain (OpenSpec.upto entityDecodeSpec)) entityDecodeUptoCard

/-- THE SECOND FORM's CARD OF 'hopscotchlaw03.EntityEncode'. -/
def entityEncodeUptoCard : Claim7 := { stood := { row := entityEncodeUptoRow, standIns := [], harness := (true, "839d3d82dedd2f047db1ec1ddb30ec01faafbb999875f7780d0545fa3cecb378"), looks := true }, kinds := [], alts := [], laidByText := true, laidKinds := [.data, .data, .data, .sentinel, .sentinel, .data], laidTests := true, laidLooks := .later }
def EntityEncodeUptoCardSaid : Prop := Claim7.holds Tryd.pinned (.plain (OpenSpec.upto entityEncodeSpec)) entityEncodeUptoCard

/-- THE SECOND FORM's CARD OF 'hopscotchlaw03.EntityBack'. -/
def entityBackUptoCard : Claim7 := { stood := { row := entityBackUptoRow, standIns := [], harness := (true, "839d3d82dedd2f047db1ec1ddb30ec01faafbb999875f7780d0545fa3cecb378"), looks := true }, kinds := [], alts := [], laidByText := true, laidKinds := [.data, .data, .data, .sentinel, .sentinel, .data], laidTests := true, laidLooks := .later }
def EntityBackUptoCardSaid : Prop := Claim7.holds Tryd.pinned (.plain (OpenSpec.upto entityBackSpec)) entityBackUptoCard

/-- THE SECOND FORM's CARD OF 'hopscotchlaw03.EntityPieces'. -/
def entityPiecesUptoCard : Claim7 := { stood := { row := entityPiecesUptoRow, standIns := [], harness := (true, "839d3d82dedd2f047db1ec1ddb30ec01faafbb999875f7780d0545fa3cecb378"), looks := true }, kinds := [], alts := [], laidByText := true, laidKinds := [.data, .data, .data, .sentinel, .sentinel, .data], laidTests := true, laidLooks := .later }
def EntityPiecesUptoCardSaid : Prop := Claim7.holds Tryd.pinned (.plain (OpenSpec.upto entityPiecesSpec)) entityPiecesUptoCard

/-- THE SECOND FORM's CARD OF 'hopscotchlaw03.EntityKnown'. -/
def entityKnownUptoCard : Claim7 := { stood := { row := entityKnownUptoRow, standIns := [], harness := (true, "839d3d82dedd2f047db1ec1ddb30ec01faafbb999875f7780d0545fa3cecb378"), looks := true }, kinds := [], alts := [], laidByText := true, laidKinds := [.data, .data, .data, .sentinel, .sentinel, .data], laidTests := true, laidLooks := .later }
def EntityKnownUptoCardSaid : Prop := Claim7.holds Tryd.pinned (.plain (OpenSpec.upto entityKnownSpec)) entityKnownUptoCard
end Rows
end Go.Proofs.YtlmgckgblkndmaaDoor
