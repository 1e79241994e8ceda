/- The closed examples of traces hold: records of each op, with what others have, are put and got back; lines with each byte another one, and cut at each place, are read as the document says. No condition: the statement has no input; the world as the row's form has it (the listed variables tied to the program's text). -/
import Derived.Test.YtpjodoipceddpaaGreatDoorLfR
import Derived.Test.YtpjodoipceddpaaGreatDoorRcW
import Derived.Test.YtpjodoipceddpaaGreatDoorLfJk
import Derived.Test.YtpjodoipceddpaaGreatDoorTie
import Derived.Test.YtpjodoipceddpaaGreatDoorCards
import Derived.SevenTiedAt
namespace Go.Proofs.YtpjodoipceddpaaGreatDoor
open Go.ChangeShapes Go.WideShapes Go.ChangeAt Go.RowKit Go.WideMaps Go.WideElems
open Go.ChangeMaps (setBlock shut_map_nil open_string shut_string keptBut_setBlock frozen?_setBlock heap_setBlock_same)
set_option linter.unusedVariables false
set_option maxRecDepth 100000 in
theorem traceKnown_lifted (os:Os) (started:os.Started) (H:Type) (enc:TypeId×Value→H):
 ReturnsInHanded {} Tryz.checked os 4 .any (fun w args=>(Rows.traceKnownSpec.pre enc Tryz.prog Tryz.f4 [] false w args∧laidMetH Tryz.prog laidL w)∧sizedMet enc Tryz.prog Tryz.f4 (OpenSpec.ofChange Rows.traceKnownSpec) false w args)
  (Rows.traceKnownSpec.post enc Tryz.prog Tryz.f4 false true false false):=by
 refine returns_sized (C:=Tryz.checked) (X:=fun w _=>laidMetH Tryz.prog laidL w) (fun _ _ _ hh h=>h.of_heap hh) law_own started (by kernel_rfl) Tryz.func4
  (ChangeSpec.witness_shaped (enc:=enc) (C:=Tryz.checked) (os:=os) (X:=fun w _=>laidMetH Tryz.prog laidL w) false (World.laidAll Tryz.prog os laidL) #[] 8 (World.laidAll_os _ _ _) (World.shaped_of_ZipB (by kernel_rfl) (by kernel_rfl)) (by kernel_rfl) (by kernel_rfl) (by kernel_rfl) (door_met os _)) ?_
 intro W base args ds gs before hval0 hW hL hsh hsz
 clear hsz
 have hst:=of_laid hL hsh
 have hval:∀(j:Nat) t v,Tryz.f4.params[j]? =some t→args[j]? =some v→Value.okWide Tryz.prog W .any base t v:=hval0
 have hW':=hW
 have hltall:∀p∈before,p.block<W.heap.size:=fun p hp=>hW.lt p hp
 obtain⟨p,q,hA0,hV,rfl,hfz,hnd⟩:=hW
 have hA:DataW.TrodAll enc Tryz.prog W 0 (fun _=>true) true Tryz.f4.params.toList args.toList ds p:=hA0
 rw[Tryz.params4] at hA hval
 obtain⟨rfl,rfl,rfl⟩:=trodAll_none hA
 obtain⟨rfl,rfl⟩:=trodVars_none hV
 clear hA0 hval0
 refine(Aw.traceKnown_any W hst).mono fun e W' ⟨he,hb0⟩=> ?_
 subst he
 have hb:=hb0.below (Nat.le_refl _) (fun _ _ h=>h)
 exact⟨_,rfl,post_of_below (pv:=[]) hW' (fun _ _ _=>trodAll_cons_mk (shut_bool Tryz.underlying4 _) trodAll_mk0) (fun sp hsp=>trodAll_mk0) (fun _ _=>rfl) rfl hb (ok_one (by kernel_rfl) rfl (okWide_bool_mk Tryz.underlying4 _))⟩
theorem traceKnown_said :Rows.TraceKnownSaid:=
 OpenClaim.holds_of_wide 4 Tryz.f4 rfl rfl rfl rfl rfl rfl rfl ⟨rfl,rfl,rfl,rfl,rfl⟩ rfl rfl rfl rfl rfl traceKnown_k1 Tryz.func4 traceKnown_facts
  (of_decide_eq_true (by kernel_rfl)) (by unfold Func.isWrapper;rw[if_neg (of_decide_eq_false (by kernel_rfl))];exact⟨rfl,rfl⟩)
  (fun os started H enc _=>traceKnown_lifted os started H enc)
theorem traceKnown_holds :Rows.TraceKnownCardSaid:=
 Claim7.holds_tied_plain_at .later [] [.data,.data,.data,.data,.sentinel,.sentinel,.widerDeep,.pinned] true (true, "21720be49ddcc783d4cf018133be8ebeeed6ad20c8d0bf66d1323431184c1094") true
  traceKnown_said (fun _ h=>by cases h) traceKnown_k2 (fun _ h=>by cases h) traceKnown_row_tie rfl ⟨rfl,rfl⟩ traceKnown_k3 rfl
  (fun f fn hf hfn=>by
   obtain rfl:f=4:=Option.some.inj (traceKnown_k1.symm.trans hf)|>.symm
   obtain rfl:fn=Tryz.f4:=(Option.some.inj (Tryz.func4.symm.trans hfn)).symm
   exact⟨traceKnown_k4,fun j t ht=>by
    rw[Tryz.params4] at ht
    simp at ht⟩)
 traceKnown_k5
end Go.Proofs.YtpjodoipceddpaaGreatDoor
