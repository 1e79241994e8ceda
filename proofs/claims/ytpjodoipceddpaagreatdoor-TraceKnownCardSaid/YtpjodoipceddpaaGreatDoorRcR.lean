/- Traces: what was active at rests, be it nothing; the law TracePuts, of one record: walked abstractly. -/
import Derived.Test.YtpjodoipceddpaaGreatDoorRcQ
import Derived.Test.YtpjodoipceddpaaGreatDoorRcJ
namespace Go.Proofs.YtpjodoipceddpaaGreatDoor.Aw
open Go.RowKit Go.Lib Rc
set_option maxHeartbeats 8000000
set_option maxRecDepth 100000
theorem vc_empty {S:Nat→Prop} {w:World} {a:Addr} {c:Nat} (hc:c≤maxLen):VC S w (.ro []) (.slice (some a) 0 c):=by
 refine .ro [] 1 (by decide) [] _ ⟨some a,c,rfl,Nat.zero_le _,hc, ?_, ?_⟩ rfl (fun i e h=>by cases h) (fun i j e c x v h=>by cases h)
 · intro h;cases h
 · intro h;exact absurd h (Nat.lt_irrefl 0)
theorem clone0_con (w:World):ConAt Tryz.prog w 33 [.ro (([]:List Int).map eI)] (.ro (([]:List Int).map eI)) []:=by
 refine con_new fun S vs hS hlen hv=> ?_
 match vs,hlen with
 |[u],_=>
  obtain⟨A,c,rfl⟩:=ro_one (hv 0 _ u rfl rfl)
  cases A with
  |none=>
   refine(Tryz.slices_Clone_int_nil 0 c w).mono fun e w' ⟨he,hw⟩=>⟨_,fun _=>False,he,fun k hk=>hk.elim,nil_vc,by rw[hw];exact Fr.refl _ _⟩
  |some a=>
   refine(Tryz.slices_Clone_int_zero a c w).mono fun e w' ⟨v',he,how,hnn,hb⟩=> ?_
   obtain⟨-,⟨rfl, -⟩|⟨g',cap,cur,rfl,h1,h2,h3,h4,h5,h6⟩⟩:=how
   · exact absurd rfl hnn
   · exact⟨_,fun _=>False,he,fun k hk=>hk.elim,vc_empty h4,Fr.of_below hb (fun k h1 h2=>absurd h1 (by omega))⟩
theorem cloneG_con (l:List Int) (hl:l.length≤1000000) (w:World):ConAt Tryz.prog w 33 [.ro (l.map eI)] (.ro (l.map eI)) []:=by
 by_cases h:l=[]
 · subst h
   exact clone0_con w
 · exact clone_con l h hl w
noncomputable def spCg :Spec:=spN.tell 33 (byE eLi (fun l=>l.length≤1000000) (fun l=>.ro (l.map eI)))
theorem spCg_at {l:List Int}:spCg.call 33 [.ro (l.map eI)]=some (l.length≤1000000,.ro (l.map eI),[]):=by
 unfold spCg
 rw[tell_same]
 exact byE_eq eLi_inj l
theorem spCg_ok (w:World) {fp:Nat→Prop}:SpecOk Tryz.prog spCg w fp:=
 tell_ok (spN_ok w) (enters_of' Tryz.func33 (by kernel_rfl)) (byE_ok fun a h w' _=>cloneG_con a h w')
theorem spCg_lit :(spCg.lit=true)=False:=eq_false (fun h=>by cases h)
theorem restsG_con (X:List RecM) (hX:Sml X) (w:World):ConAt Tryz.prog w 14 [.ro (cRl X)] (.ro (cLs (restsM X))) []:=by
 obtain⟨hX,hL⟩:=hX
 refine con_of_aw (sp:=spCg) (Φ:=fun _=>True) [] (fun w _=>spCg_ok w) (by kernel_rfl) Tryz.func14 rfl ?_ w trivial
 intro hLen
 simp only[Tryz.ntmps14,List.length_cons,List.length_nil,Nat.reduceAdd,Nat.reduceSub,List.replicate_succ,List.replicate_zero,List.cons_append,List.nil_append]
 have hR:=Tryz.results14
 have hll:=cRl_len X
 simp (maxSteps:=2000000) only[↓awA,awB,evA,envE,ofV,putE,listH,setRow,spl,oneP,guardB,frzA,mapO,allSc,closeA,shiftA,shiftR,flatA,flat0,scA,Row.len,fillW,rep,chunks,closed1,Value.oneCell',Nat.reduceAdd,reduceIte,reduceCtorEq,Nat.reduceLT,Nat.reduceLeDiff,Nat.reduceEqDiff,Nat.reduceSub,Nat.reduceMul,frz1,frzR,eq_self,and_self,tys,  hR,hll]
 refine aw_loop (fun i:Nat=>[.dead,.dead,.dead,.sl 0 (restsM (X.take i)).length,.dead,.dead,.ro (cRl X),.sc (.int .i64 (X.length:Int)),.sc (.int .i64 (i:Int))]++deads 14) (fun i=>[.lst 1 (cLs (restsM (X.take i))) 32])
  (fun i=>i≤X.length) (fun i=>X.length - i) 0 ?_ (Nat.zero_le _) ?_ (fun _ _=>by rw[show spCg.pins=0 from rfl];trivial)
 · simp[Weak,weakL,weakR,weakV,nilV,nilR,okA,listH,deads,pinR,isVarB,pin_pins,  restsM,cLs]
 intro i hi
 simp only[deads,List.replicate_succ,List.replicate_zero,List.cons_append,List.nil_append]
 have hcl:∀L:List (List Int),(cLs L).length=L.length:=fun L=>by unfold cLs;rw[List.length_map]
 by_cases hlt:i<X.length
 · obtain⟨r,hr⟩:∃r,X[i]? =some r:=⟨_,List.getElem?_eq_getElem hlt⟩
   have e2:=cRl_at hr
   have hw:=wr_lt hlt (by omega)
   have hrl:=hL r (List.mem_of_getElem? hr)
   have hsn:=restsM_snoc (X.take i) r
   rw[←take_at hr] at hsn
   have hle:=restsM_le (X.take i)
   rw[List.length_take] at hle
   have d1:((r.op:Int)==12)=decide (r.op=12):=by rw[Bool.eq_iff_iff,beq_iff_eq,decide_eq_true_eq];omega
   cases p1:decide (r.op=12)
   · have hp:=of_decide_eq_false p1
     rw[if_neg hp,List.append_nil] at hsn
     simp (maxSteps:=2000000) only[↓awA,awB,evA,envE,ofV,putE,listH,setRow,spl,oneP,guardB,frzA,mapO,allSc,closeA,shiftA,shiftR,flatA,flat0,scA,Row.len,fillW,rep,chunks,closed1,Value.oneCell',Nat.reduceAdd,reduceIte,reduceCtorEq,Nat.reduceLT,Nat.reduceLeDiff,Nat.reduceEqDiff,Nat.reduceSub,Nat.reduceMul,frz1,frzR,eq_self,and_self,tys,  hlt,hll,e2,cR,d1,p1]
     refine loopQ_next (i+1) ?_ hlt (by omega)
     simp[Weak,weakL,weakR,weakV,nilV,nilR,okA,listH,deads,pinR,isVarB,pin_pins,  hw,hsn]
   · have hp:=of_decide_eq_true p1
     rw[if_pos hp] at hsn
     have hcs:cLs (restsM (X.take i))++[[.ro (r.list.map eI)]]=cLs (restsM (X.take (i+1))):=by
      rw[hsn]
      unfold cLs
      rw[List.map_append]
      rfl
     have hb:((restsM (X.take i)).length+1)*24≤140737488355328:=by omega
     have hln:(restsM (X.take (i+1))).length=(restsM (X.take i)).length+1:=by rw[hsn,List.length_append];rfl
     simp (maxSteps:=2000000) only[↓awA,awB,evA,envE,ofV,putE,listH,setRow,spl,oneP,guardB,frzA,mapO,allSc,closeA,shiftA,shiftR,flatA,flat0,scA,Row.len,fillW,rep,chunks,closed1,Value.oneCell',Nat.reduceAdd,reduceIte,reduceCtorEq,Nat.reduceLT,Nat.reduceLeDiff,Nat.reduceEqDiff,Nat.reduceSub,Nat.reduceMul,frz1,frzR,eq_self,and_self,tys,  hlt,hll,e2,cR,d1,p1,spCg_at,hrl,spCg_lit,hcs,hb,hcl]
     refine loopQ_next (i+1) ?_ hlt (by omega)
     simp[Weak,weakL,weakR,weakV,nilV,nilR,okA,listH,deads,pinR,isVarB,pin_pins,  hw,hcl,hln]
 · have hti:X.take i=X:=List.take_of_length_le (by omega)
   rw[hti]
   simp (maxSteps:=2000000) only[↓awA,awB,evA,envE,ofV,putE,listH,setRow,spl,oneP,guardB,frzA,mapO,allSc,closeA,shiftA,shiftR,flatA,flat0,scA,Row.len,fillW,rep,chunks,closed1,Value.oneCell',Nat.reduceAdd,reduceIte,reduceCtorEq,Nat.reduceLT,Nat.reduceLeDiff,Nat.reduceEqDiff,Nat.reduceSub,Nat.reduceMul,frz1,frzR,eq_self,and_self,tys,  hlt,hR,hcl]
end Go.Proofs.YtpjodoipceddpaaGreatDoor.Aw
