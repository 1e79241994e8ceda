/- Any text has the tree that the document says, or fails as it says, at the same place, twice over, what is answered being written over in between; and the chapter's examples hold (of texts of more than 1000 bytes the examples alone are asked). No condition on the input: every text, every value; the world as the row's form has it (the listed variables tied to the program's text). -/
import Derived.Test.YtnlacmnoocigiaaGreatDoorLfMz
import Derived.Test.YtnlacmnoocigiaaGreatDoorTrpB
import Derived.Test.YtnlacmnoocigiaaGreatDoorTie
import Derived.Test.YtnlacmnoocigiaaGreatDoorCards
import Derived.SevenTiedAt
namespace Go.Proofs.YtnlacmnoocigiaaGreatDoor
open Go.ChangeShapes Go.WideShapes Go.ChangeAt Go.RowKit Go.WideMaps Go.WideElems
open Go.ChangeMaps (setBlock shut_map_nil open_string shut_string keptBut_setBlock frozen?_setBlock heap_setBlock_same)
set_option linter.unusedVariables false
set_option maxRecDepth 100000 in
theorem zae (os:Os)(started:os.Started)(H:Type)(enc:TypeId×Value→H):
 ReturnsInHanded {} Tryz.checked os 3 .any (fun w args=>(Rows.treeParseSpec.pre enc Tryz.prog Tryz.f3 [] false w args∧laidMetH Tryz.prog zid w)∧sizedMet enc Tryz.prog Tryz.f3 (OpenSpec.ofChange Rows.treeParseSpec) false w args)
  (Rows.treeParseSpec.post enc Tryz.prog Tryz.f3 false true false false):=by
 refine zeh (C:=Tryz.checked) (X:=fun w _=>laidMetH Tryz.prog zid w) (fun _ _ _ hh h=>h.of_heap hh) zw4 started (by kernel_rfl) Tryz.func3
  (ChangeSpec.witness_shaped (enc:=enc) (C:=Tryz.checked) (os:=os) (X:=fun w _=>laidMetH Tryz.prog zid w) false (World.laidAll Tryz.prog os zid) #[.string ⟨#[]⟩] 8 (World.laidAll_os _ _ _) (World.shaped_of_ZipB (by kernel_rfl) (by kernel_rfl)) (by kernel_rfl) (by kernel_rfl) (by kernel_rfl) (zt1 os _)) ?_
 intro W base args ds gs before hval0 hW hL hsh hsz;clear hsz;have hst:=zw5 hL hsh;have hval:∀(j:Nat) t v,Tryz.f3.params[j]? =some t→args[j]? =some v→Value.okWide Tryz.prog W .any base t v:=hval0;have hW':=hW;have hltall:∀p∈before,p.block<W.heap.size:=fun p hp=>hW.lt p hp;obtain⟨p,q,hA0,hV,rfl,hfz,hnd⟩:=hW;have hA:DataW.TrodAll enc Tryz.prog W 0 (fun _=>true) true Tryz.f3.params.toList args.toList ds p:=hA0;rw[Tryz.params3] at hA hval;obtain⟨v0,vs0,d0,ds0,p0,q0,hargs,rfl,rfl,h0,r0⟩:=trodAll_cons hA;obtain⟨rfl,rfl,rfl⟩:=trodAll_nil r0;obtain rfl:args= #[v0]:=by cases args;simp_all
 obtain⟨rfl,rfl⟩:=trodVars_none hV;have hkeep:=hA;have k0:=h0;obtain⟨a0,rfl, -, -,w0⟩:=open_string Tryz.underlying9 (hval 0 9 v0 rfl rfl) h0;clear hA0 hval0;refine(zf2 a0 W hst w0).mono fun e W' ⟨he,hb0⟩=> ?_;subst he;have hb:=hb0.below (Nat.le_refl _) (fun _ _ h=>h);exact⟨_,rfl,ze8 (pv:=[]) hW' (fun _ _ _=>trodAll_cons_mk (shut_bool Tryz.underlying4 _) trodAll_mk0) (fun sp hsp=>(trodAll_cons_mk (zoa zt0 (by kernel_rfl) (of_decide_eq_true (by kernel_rfl)) k0 hb (fun x hx=>hltall x (by simp[hx])) (fun x hx=>hsp x (by simp[hx]))) trodAll_mk0)) (fun _ _=>rfl) rfl hb (ok_one (by kernel_rfl) rfl (okWide_bool_mk Tryz.underlying4 _))⟩
theorem zcm :Rows.TreeParseSaid:=
 OpenClaim.holds_of_wide 3 Tryz.f3 rfl rfl rfl rfl rfl rfl rfl ⟨rfl,rfl,rfl,rfl,rfl⟩ rfl rfl rfl rfl rfl treeParse_k1 Tryz.func3 zbm
  (of_decide_eq_true (by kernel_rfl)) (by unfold Func.isWrapper;rw[if_neg (of_decide_eq_false (by kernel_rfl))];exact⟨rfl,rfl⟩)
  (fun os started H enc _=>zae os started H enc)
theorem treeParse_holds :Rows.TreeParseCardSaid:=
 Claim7.holds_tied_plain_at .later [] [.data,.data,.data,.data,.sentinel,.sentinel,.data,.pinned] true (true, "e35263594da013d8a7f905cbd9e25457205a10dfa59d4ca773c12d6893463907") true
  zcm (fun _ h=>by cases h) zg7 (fun _ h=>by cases h) treeParse_row_tie rfl ⟨rfl,rfl⟩ zg8 rfl
  (fun f fn hf hfn=>by
   obtain rfl:f=3:=Option.some.inj (treeParse_k1.symm.trans hf)|>.symm;obtain rfl:fn=Tryz.f3:=(Option.some.inj (Tryz.func3.symm.trans hfn)).symm
   exact⟨zg9,fun j t ht=>by
    rw[Tryz.params3] at ht
    have h3:t=9:=by
     rcases j with _|j<;>simp at ht
     · simp[←ht]
    subst h3;exact(show Tryz.prog.wantsStandIn 9=false by kernel_rfl)⟩)
  zga
end Go.Proofs.YtnlacmnoocigiaaGreatDoor
