/-
  No cell of these rows narrows 'for every input' (looked for: loops, veiled, ifaces, maps, wideKeys, modest, calm, conditions, laid).
  DERIVED. THE GIVEN ROWS OF THIS SEAT. 6 by the template 'for every input the law returns true; each argument reads behind the call as it read before'; 0 by the template 'total and deterministic' (their statements: YthfihlojpmhagaaTotals.lean).
  GIVEN WITH THE SEED: the statements are not yours to turn. If you find one false, say at which input.
  Laid BY PROGRAM, IN A SANDBOX (cutbox-rows.mjs): the forced cells as the released guide's own fill.sh prints them over the translation 66edc683d93455f6… (all of the seat's roots in one cut). By AI agents, Wed Nov 11 2026. No macro, syntax, notation, axiom, sorry.
-/
import Derived.Test.YthfihlojpmhagaaChecked
import GoSem.Claim
import GoSem.ClaimJoined
import GoSem.ClaimMapViews
import Derived.JoinedTies
import Derived.KernelRfl
namespace Go.Proofs.Ythfihlojpmhagaa
/- THE CELL 'sum', in the pinned program and in every row, IS THE sha256 OF THE DUMP (.gsa) THAT YthfihlojpmhagaaProg.lean LOADS. Nothing in Lean hashes anything: it is a label: what it is worth is what the hold of that sum in a sandbox is worth. -/
noncomputable def Try.pinned : Pinned := { name := "ythfihlojpmhagaa", sum := "66edc683d93455f6550684f893039aef0c1ec310d6723cdc0f6ea1aedf447849", checked := Try.checked }
namespace Rows
def none {H : Type} : Left H := { results := [], args := [] }

/-- 'hopscotchlaw24.PoolPlays': WHATEVER THE INPUT: true; the input reads as it did. -/
def poolPlaysSpec : ChangeSpec := { name := "poolPlays", fn := fun _ => fun
  | [d1, d2] => { results := [.lit (.bool true)], args := [d1, d2] }
  | _ => none }
def poolPlaysRow : OpenClaim := { program := "ythfihlojpmhagaa", sum := "66edc683d93455f6550684f893039aef0c1ec310d6723cdc0f6ea1aedf447849", func := "hopscotch/hopscotchlaw24.PoolPlays", spec := "poolPlays", unfollowed := true, recurses := true, apart := false }
def PoolPlaysSaid : Prop := poolPlaysRow.holds Try.pinned (OpenSpec.ofChange poolPlaysSpec)

/-- ITS FALSE NEIGHBOUR: 'it returns false'. Refute it at one input. -/
def poolPlaysWrong : ChangeSpec := { name := "poolPlays", fn := fun _ => fun
  | [d1, d2] => { results := [.lit (.bool false)], args := [d1, d2] }
  | _ => none }
def PoolPlaysWrongFalsely : Prop := poolPlaysRow.holds Try.pinned (OpenSpec.ofChange poolPlaysWrong)

/-- 'hopscotchlaw24.PoolOnce': WHATEVER THE INPUT: true; the input reads as it did. -/
def poolOnceSpec : ChangeSpec := { name := "poolOnce", fn := fun _ => fun
  | [d1, d2] => { results := [.lit (.bool true)], args := [d1, d2] }
  | _ => none }
def poolOnceRow : OpenClaim := { program := "ythfihlojpmhagaa", sum := "66edc683d93455f6550684f893039aef0c1ec310d6723cdc0f6ea1aedf447849", func := "hopscotch/hopscotchlaw24.PoolOnce", spec := "poolOnce", unfollowed := true, recurses := true, apart := false }
def PoolOnceSaid : Prop := poolOnceRow.holds Try.pinned (OpenSpec.ofChange poolOnceSpec)

/-- ITS FALSE NEIGHBOUR: 'it returns false'. Refute it at one input. -/
def poolOnceWrong : ChangeSpec := { name := "poolOnce", fn := fun _ => fun
  | [d1, d2] => { results := [.lit (.bool false)], args := [d1, d2] }
  | _ => none }
def PoolOnceWrongFalsely : Prop := poolOnceRow.holds Try.pinned (OpenSpec.ofChange poolOnceWrong)

/-- 'hopscotchlaw24.PoolNone': WHATEVER THE INPUT: true; the input reads as it did. -/
def poolNoneSpec : ChangeSpec := { name := "poolNone", fn := fun _ => fun
  | [d] => { results := [.lit (.bool true)], args := [d] }
  | _ => none }
def poolNoneRow : OpenClaim := { program := "ythfihlojpmhagaa", sum := "66edc683d93455f6550684f893039aef0c1ec310d6723cdc0f6ea1aedf447849", func := "hopscotch/hopscotchlaw24.PoolNone", spec := "poolNone", unfollowed := true, recurses := true, apart := false }
def PoolNoneSaid : Prop := poolNoneRow.holds Try.pinned (OpenSpec.ofChange poolNoneSpec)

/-- ITS FALSE NEIGHBOUR: 'it returns false'. Refute it at one input. -/
def poolNoneWrong : ChangeSpec := { name := "poolNone", fn := fun _ => fun
  | [d] => { results := [.lit (.bool false)], args := [d] }
  | _ => none }
def PoolNoneWrongFalsely : Prop := poolNoneRow.holds Try.pinned (OpenSpec.ofChange poolNoneWrong)

/-- 'hopscotchlaw24.PoolRows': WHATEVER THE INPUT: true; the input reads as it did. -/
def poolRowsSpec : ChangeSpec := { name := "poolRows", fn := fun _ => fun
  | [d1, d2, d3, d4] => { results := [.lit (.bool true)], args := [d1, d2, d3, d4] }
  | _ => none }
def poolRowsRow : OpenClaim := { program := "ythfihlojpmhagaa", sum := "66edc683d93455f6550684f893039aef0c1ec310d6723cdc0f6ea1aedf447849", func := "hopscotch/hopscotchlaw24.PoolRows", spec := "poolRows", unfollowed := true, recurses := true, apart := false }
def PoolRowsSaid : Prop := poolRowsRow.holds Try.pinned (OpenSpec.ofChange poolRowsSpec)

/-- ITS FALSE NEIGHBOUR: 'it returns false'. Refute it at one input. -/
def poolRowsWrong : ChangeSpec := { name := "poolRows", fn := fun _ => fun
  | [d1, d2, d3, d4] => { results := [.lit (.bool false)], args := [d1, d2, d3, d4] }
  | _ => none }
def PoolRowsWrongFalsely : Prop := poolRowsRow.holds Try.pinned (OpenSpec.ofChange poolRowsWrong)

/-- 'hopscotchlaw24.PoolAgain': WHATEVER THE INPUT: true; the input reads as it did. -/
def poolAgainSpec : ChangeSpec := { name := "poolAgain", fn := fun _ => fun
  | [d1, d2, d3] => { results := [.lit (.bool true)], args := [d1, d2, d3] }
  | _ => none }
def poolAgainRow : OpenClaim := { program := "ythfihlojpmhagaa", sum := "66edc683d93455f6550684f893039aef0c1ec310d6723cdc0f6ea1aedf447849", func := "hopscotch/hopscotchlaw24.PoolAgain", spec := "poolAgain", unfollowed := true, recurses := true, apart := false }
def PoolAgainSaid : Prop := poolAgainRow.holds Try.pinned (OpenSpec.ofChange poolAgainSpec)

/-- ITS FALSE NEIGHBOUR: 'it returns false'. Refute it at one input. -/
def poolAgainWrong : ChangeSpec := { name := "poolAgain", fn := fun _ => fun
  | [d1, d2, d3] => { results := [.lit (.bool false)], args := [d1, d2, d3] }
  | _ => none }
def PoolAgainWrongFalsely : Prop := poolAgainRow.holds Try.pinned (OpenSpec.ofChange poolAgainWrong)

/-- 'hopscotchlaw24.PoolKnown': WHATEVER THE INPUT: true; the input reads as it did. -/
def poolKnownSpec : ChangeSpec := { name := "poolKnown", fn := fun _ => fun
  | [] => { results := [.lit (.bool true)], args := [] }
  | _ => none }
def poolKnownRow : OpenClaim := { program := "ythfihlojpmhagaa", sum := "66edc683d93455f6550684f893039aef0c1ec310d6723cdc0f6ea1aedf447849", func := "hopscotch/hopscotchlaw24.PoolKnown", spec := "poolKnown", unfollowed := true, recurses := true, apart := false }
def PoolKnownSaid : Prop := poolKnownRow.holds Try.pinned (OpenSpec.ofChange poolKnownSpec)

/-- ITS FALSE NEIGHBOUR: 'it returns false'. Refute it at one input. -/
def poolKnownWrong : ChangeSpec := { name := "poolKnown", fn := fun _ => fun
  | [] => { results := [.lit (.bool false)], args := [] }
  | _ => none }
def PoolKnownWrongFalsely : Prop := poolKnownRow.holds Try.pinned (OpenSpec.ofChange poolKnownWrong)

/- THE SECOND FORM. 'bulk': how many values and letters a reading holds, each counted each time it is reached (what is shared counts as often as it is met; a slice's spare places count too). A statement '..UptoSaid' is the law's where the arguments, and the package variables that the reading takes, are together of bulk at most 1048576: NARROWER than '..Said'. Prove '..Said' where nothing that the law and all that it calls make is longer than what came in: it says more and counts as full. Else prove '..UptoSaid'. A law counts once. -/
mutual
def uptoBulk {H : Type} : DataW H → Nat
  | .lit (.string bytes) => bytes.length + 1
  | .lit _ => 1
  | .nil => 1
  | .ptr d => uptoBulk d + 1
  | .slice elems spare => uptoBulkAll elems + uptoBulkAll spare + 1
  | .agg parts => uptoBulkAll parts + 1
  | .iface _ d => uptoBulk d + 1
  | .map entries => uptoBulkEntries entries + 1
  | .held _ => 1
def uptoBulkAll {H : Type} : List (DataW H) → Nat
  | [] => 0
  | d :: r => uptoBulk d + uptoBulkAll r
def uptoBulkEntries {H : Type} : List (Lit × DataW H) → Nat
  | [] => 0
  | x :: r => uptoBulkEntry x + uptoBulkEntries r
def uptoBulkEntry {H : Type} : Lit × DataW H → Nat
  | (.string bytes, d) => bytes.length + uptoBulk d + 1
  | (_, d) => uptoBulk d + 1
 end
def uptoSmall : (H : Type) → List (DataW H) → Bool := fun _ ds => decide (uptoBulkAll ds ≤ 1048576)
def OpenSpec.upto (s : _root_.Go.ChangeSpec) : _root_.Go.OpenSpec := { _root_.Go.OpenSpec.ofChange s with cond := some uptoSmall }

/-- 'hopscotchlaw24.PoolPlays', WHERE WHAT IT READS IS OF BULK AT MOST 1048576: true; the input reads as it did. -/
def poolPlaysUptoRow : OpenClaim := { program := "ythfihlojpmhagaa", sum := "66edc683d93455f6550684f893039aef0c1ec310d6723cdc0f6ea1aedf447849", func := "hopscotch/hopscotchlaw24.PoolPlays", spec := "poolPlays", unfollowed := true, recurses := true, apart := false, narrowed := true }
def PoolPlaysUptoSaid : Prop := poolPlaysUptoRow.holds Try.pinned (OpenSpec.upto poolPlaysSpec)

/-- 'hopscotchlaw24.PoolOnce', WHERE WHAT IT READS IS OF BULK AT MOST 1048576: true; the input reads as it did. -/
def poolOnceUptoRow : OpenClaim := { program := "ythfihlojpmhagaa", sum := "66edc683d93455f6550684f893039aef0c1ec310d6723cdc0f6ea1aedf447849", func := "hopscotch/hopscotchlaw24.PoolOnce", spec := "poolOnce", unfollowed := true, recurses := true, apart := false, narrowed := true }
def PoolOnceUptoSaid : Prop := poolOnceUptoRow.holds Try.pinned (OpenSpec.upto poolOnceSpec)

/-- 'hopscotchlaw24.PoolNone', WHERE WHAT IT READS IS OF BULK AT MOST 1048576: true; the input reads as it did. -/
def poolNoneUptoRow : OpenClaim := { program := "ythfihlojpmhagaa", sum := "66edc683d93455f6550684f893039aef0c1ec310d6723cdc0f6ea1aedf447849", func := "hopscotch/hopscotchlaw24.PoolNone", spec := "poolNone", unfollowed := true, recurses := true, apart := false, narrowed := true }
def PoolNoneUptoSaid : Prop := poolNoneUptoRow.holds Try.pinned (OpenSpec.upto poolNoneSpec)

/-- 'hopscotchlaw24.PoolRows', WHERE WHAT IT READS IS OF BULK AT MOST 1048576: true; the input reads as it did. -/
def poolRowsUptoRow : OpenClaim := { program := "ythfihlojpmhagaa", sum := "66edc683d93455f6550684f893039aef0c1ec310d6723cdc0f6ea1aedf447849", func := "hopscotch/hopscotchlaw24.PoolRows", spec := "poolRows", unfollowed := true, recurses := true, apart := false, narrowed := true }
def PoolRowsUptoSaid : Prop := poolRowsUptoRow.holds Try.pinned (OpenSpec.upto poolRowsSpec)

/-- 'hopscotchlaw24.PoolAgain', WHERE WHAT IT READS IS OF BULK AT MOST 1048576: true; the input reads as it did. -/
def poolAgainUptoRow : OpenClaim := { program := "ythfihlojpmhagaa", sum := "66edc683d93455f6550684f893039aef0c1ec310d6723cdc0f6ea1aedf447849", func := "hopscotch/hopscotchlaw24.PoolAgain", spec := "poolAgain", unfollowed := true, recurses := true, apart := false, narrowed := true }
def PoolAgainUptoSaid : Prop := poolAgainUptoRow.holds Try.pinned (OpenSpec.upto poolAgainSpec)

/-- 'hopscotchlaw24.PoolKnown', WHERE WHAT IT READS IS OF BULK AT MOST 1048576: true; the input reads as it did. -/
def poolKnownUptoRow : OpenClaim := { program := "ythfihlojpmhagaa", sum := "66edc683d93455f6550684f893039aef0c1ec310d6723cdc0f6ea1aedf447849", func := "hopscotch/hopscotchlaw24.PoolKnown", spec := "poolKnown", unfollowed := true, recurses := true, apart := false, narrowed := true }
def PoolKnownUptoSaid : Prop := poolKnownUptoRow.holds Try.pinned (OpenSpec.upto poolKnownSpec)

end Rows
end Go.Proofs.Ythfihlojpmhagaa
