/- Traces: how many microsteps there are, and what was active at rests, walked abstractly. -/
import Derived.Test.YtpjodoipceddpaaGreatDoorRcI
import Derived.Test.YtpjodoipceddpaaGreatDoorRecVx
namespace Go.Proofs.YtpjodoipceddpaaGreatDoor.Aw
open Go.RowKit Go.Lib Rc
set_option maxHeartbeats 8000000
set_option maxRecDepth 100000
theorem eI_row (l:List Int):l.map eI=(l.map fun n=>AV.sc (.int .i64 n)).map fun x=>[x]:=by
 rw[List.map_map]
 rfl
theorem ints_cells {S:Nat→Prop} {w:World} {x:Int} {l:List Int} {u:Value} (h1:VC S w (.ro ((x::l).map eI)) u):∃g o c,u=.slice (some ⟨g,o,none⟩) (l.length+1) c∧∀j y,(x::l)[j]? =some y→w.cell? ⟨g,o+j,none⟩=some (.int .i64 y):=by
 obtain⟨g,o,c,rfl, -⟩:=ro_elem h1 (q:=0) (by simp)
 refine⟨g,o,c,by simp,fun j y hy=> ?_⟩
 have hj:j<((x::l).map eI).length:=by rw[List.length_map];exact(List.getElem?_eq_some_iff.1 hy).1
 obtain⟨g',o',c',hv',hrp⟩:=ro_elem h1 hj
 simp only[Value.slice.injEq,Option.some.injEq,Addr.mk.injEq,true_and,and_true] at hv'
 obtain⟨⟨rfl,rfl⟩, -⟩:=hv'
 have:at_ ((x::l).map eI) j=eI y:=at_some hy
 rw[this] at hrp
 cases hrp with
 |rp _ _ _ vs hS hcell hl h1 hvv=>
  match vs,hl with
  |[v],_=>
   have:=(hvv 0 _ v rfl rfl).sc_inv
   subst this
   have:=hcell 0 _ rfl
   simpa [eI] using this
theorem clone_con (l:List Int) (hne:l≠[]) (hl:l.length≤1000000) (w:World):ConAt Tryz.prog w 33 [.ro (l.map eI)] (.ro (l.map eI)) []:=by
 obtain⟨x,l,rfl⟩:=List.exists_cons_of_ne_nil hne
 rw[List.length_cons] at hl
 refine con_new fun S vs hS hlen hv=> ?_
 match vs,hlen with
 |[u],_=>
  obtain⟨g,o,c,rfl,hc⟩:=ints_cells (hv 0 _ u rfl rfl)
  refine(Tryz.slices_Clone_int g o (l.length+1) c (x::l) w (by simp) (by omega) (fun j hj=> ?_)).mono fun e w' ⟨v',he,how,hnn,hb⟩=> ?_
  · rw[hc j _ (List.getElem?_eq_getElem hj),List.getD_eq_getElem?_getD,List.getElem?_eq_getElem hj]
    rfl
  · obtain⟨-,⟨rfl, -⟩|⟨g',cap,cur,rfl,h1,h2,h3,h4,h5,h6⟩⟩:=how
    · exact absurd rfl hnn
    · have htk:(x::l).take (l.length+1)=x::l:=List.take_of_length_le (by simp)
      rw[htk,Nat.mul_one] at h6
      refine⟨_,fun k=>k=g',he,fun k hk=> ?_, ?_,Fr.of_below hb (fun k h1 h2=>absurd h1 (by omega))⟩
      · subst hk
        exact⟨h1,lt_of_block h2,fun arr e fz h=>by rw[h2] at h;cases h;rfl⟩
      · rw[eI_row]
        refine vc_row (vs:=(x::l).map (Value.int .i64)) rfl (by simp) h3 h4 (fun j v hj=> ?_) (by simp) (fun v hv=> ?_) (fun i y v h1 h2=> ?_)
        · rw[cell_of_row w' g' (0+j) _ _ (0,0) h2,Nat.zero_add]
          rw[←h6,List.getElem?_take] at hj
          split at hj
          · simpa using hj
          · cases hj
        · obtain⟨n, -,rfl⟩:=List.mem_map.1 hv
          rfl
        · rw[List.getElem?_map] at h1 h2
          cases hi:(x::l)[i]? with
          |none=>rw[hi] at h1;cases h1
          |some n=>rw[hi] at h1 h2;cases h1;cases h2;exact .sc _
def isStep (r:RecM):Bool:=decide (3≤r.op) && decide (r.op≤7)
def stepsM (X:List RecM):Nat:=(X.filter isStep).length
theorem stepsM_snoc (X:List RecM) (r:RecM):stepsM (X++[r])=stepsM X+(if isStep r then 1 else 0):=by
 unfold stepsM
 rw[List.filter_append,List.length_append]
 cases h:isStep r<;>simp[h]
theorem stepsM_le (X:List RecM):stepsM X≤X.length:=List.length_filter_le _ _
theorem steps_con (X:List RecM) (hX:X.length≤1000000) (w:World):ConAt Tryz.prog w 15 [.ro (cRl X)] (.sc (.int .i64 (stepsM X:Nat))) []:=by
 refine con_of_aw (sp:=spN) (Φ:=fun _=>True) [] (fun w _=>spN_ok w) (by kernel_rfl) Tryz.func15 rfl ?_ w trivial
 intro hLen
 simp only[Tryz.ntmps15,List.length_cons,List.length_nil,Nat.reduceAdd,Nat.reduceSub,List.replicate_succ,List.replicate_zero,List.cons_append,List.nil_append]
 have hR:=Tryz.results15
 have hll:=cRl_len X
 simp (maxSteps:=2000000) only[↓awA,awB,evA,envE,ofV,putE,listH,setRow,spl,oneP,guardB,frzA,mapO,allSc,closeA,shiftA,shiftR,flatA,flat0,scA,Row.len,fillW,rep,chunks,closed1,Value.oneCell',Nat.reduceAdd,reduceIte,reduceCtorEq,Nat.reduceLT,Nat.reduceLeDiff,Nat.reduceEqDiff,Nat.reduceSub,Nat.reduceMul,frz1,frzR,eq_self,and_self,tys,  hR,hll]
 refine aw_loop (fun i:Nat=>[.dead,.dead,.dead,.sc (.int .i64 (stepsM (X.take i):Nat)),.dead,.dead,.ro (cRl X),.sc (.int .i64 (X.length:Int)),.sc (.int .i64 (i:Int))]++deads 15) (fun _=>[])
  (fun i=>i≤X.length) (fun i=>X.length - i) 0 ?_ (Nat.zero_le _) ?_ (fun _ _=>by rw[show spN.pins=0 from rfl];trivial)
 · simp[Weak,weakL,weakR,weakV,nilV,nilR,okA,listH,deads,pinR,isVarB,pin_pins,  stepsM]
 intro i hi
 simp only[deads,List.replicate_succ,List.replicate_zero,List.cons_append,List.nil_append]
 by_cases hlt:i<X.length
 · obtain⟨r,hr⟩:∃r,X[i]? =some r:=⟨_,List.getElem?_eq_getElem hlt⟩
   have e2:=cRl_at hr
   have hw:=wr_lt hlt (by omega)
   have hsn:=stepsM_snoc (X.take i) r
   rw[←take_at hr] at hsn
   have hle:=stepsM_le (X.take i)
   rw[List.length_take] at hle
   have hw2:IntKind.i64.wrap ((stepsM (X.take i):Int)+1)=((stepsM (X.take i)+1:Nat):Int):=by rw[IntWalk.i64_in _ (by omega)];omega
   have d1:decide ((r.op:Int)≥3)=decide (3≤r.op):=decide_eq_decide.2 (by omega)
   have d2:decide ((r.op:Int)≤7)=decide (r.op≤7):=decide_eq_decide.2 (by omega)
   cases p1:decide (3≤r.op)
   · have hs:isStep r=false:=by unfold isStep;rw[p1,Bool.false_and]
     rw[hs] at hsn
     simp (maxSteps:=2000000) only[↓awA,awB,evA,envE,ofV,putE,listH,setRow,spl,oneP,guardB,frzA,mapO,allSc,closeA,shiftA,shiftR,flatA,flat0,scA,Row.len,fillW,rep,chunks,closed1,Value.oneCell',Nat.reduceAdd,reduceIte,reduceCtorEq,Nat.reduceLT,Nat.reduceLeDiff,Nat.reduceEqDiff,Nat.reduceSub,Nat.reduceMul,frz1,frzR,eq_self,and_self,tys,  hlt,hll,e2,cR,d1,p1]
     refine loopQ_next (i+1) ?_ hlt (by omega)
     simp[Weak,weakL,weakR,weakV,nilV,nilR,okA,listH,deads,pinR,isVarB,pin_pins,  hw,hsn]
   · cases p2:decide (r.op≤7)
     · have hs:isStep r=false:=by unfold isStep;rw[p1,p2];rfl
       rw[hs] at hsn
       simp (maxSteps:=2000000) only[↓awA,awB,evA,envE,ofV,putE,listH,setRow,spl,oneP,guardB,frzA,mapO,allSc,closeA,shiftA,shiftR,flatA,flat0,scA,Row.len,fillW,rep,chunks,closed1,Value.oneCell',Nat.reduceAdd,reduceIte,reduceCtorEq,Nat.reduceLT,Nat.reduceLeDiff,Nat.reduceEqDiff,Nat.reduceSub,Nat.reduceMul,frz1,frzR,eq_self,and_self,tys,  hlt,hll,e2,cR,d1,p1,d2,p2]
       refine loopQ_next (i+1) ?_ hlt (by omega)
       simp[Weak,weakL,weakR,weakV,nilV,nilR,okA,listH,deads,pinR,isVarB,pin_pins,  hw,hsn]
     · have hs:isStep r=true:=by unfold isStep;rw[p1,p2];rfl
       rw[hs] at hsn
       simp (maxSteps:=2000000) only[↓awA,awB,evA,envE,ofV,putE,listH,setRow,spl,oneP,guardB,frzA,mapO,allSc,closeA,shiftA,shiftR,flatA,flat0,scA,Row.len,fillW,rep,chunks,closed1,Value.oneCell',Nat.reduceAdd,reduceIte,reduceCtorEq,Nat.reduceLT,Nat.reduceLeDiff,Nat.reduceEqDiff,Nat.reduceSub,Nat.reduceMul,frz1,frzR,eq_self,and_self,tys,  hlt,hll,e2,cR,d1,p1,d2,p2]
       refine loopQ_next (i+1) ?_ hlt (by omega)
       simp[Weak,weakL,weakR,weakV,nilV,nilR,okA,listH,deads,pinR,isVarB,pin_pins,  hw,hsn,hw2]
 · have hti:X.take i=X:=List.take_of_length_le (by omega)
   rw[hti]
   simp (maxSteps:=2000000) only[↓awA,awB,evA,envE,ofV,putE,listH,setRow,spl,oneP,guardB,frzA,mapO,allSc,closeA,shiftA,shiftR,flatA,flat0,scA,Row.len,fillW,rep,chunks,closed1,Value.oneCell',Nat.reduceAdd,reduceIte,reduceCtorEq,Nat.reduceLT,Nat.reduceLeDiff,Nat.reduceEqDiff,Nat.reduceSub,Nat.reduceMul,frz1,frzR,eq_self,and_self,tys,  hlt,hR]
def restsM (X:List RecM):List (List Int):=(X.filter fun r=>decide (r.op=12)).map (·.list)
def cLs (L:List (List Int)):List (List AV):=L.map fun l=>[.ro (l.map eI)]
theorem restsM_snoc (X:List RecM) (r:RecM):restsM (X++[r])=restsM X++(if r.op=12 then [r.list] else []):=by
 unfold restsM
 rw[List.filter_append,List.map_append]
 by_cases h:r.op=12<;>simp[h]
theorem restsM_le (X:List RecM):(restsM X).length≤X.length:=by unfold restsM;rw[List.length_map];exact List.length_filter_le _ _
def eLi (l:List Int):List AV:=[.ro (l.map eI)]
theorem eLi_inj (x y:List Int) (h:eLi x=eLi y):x=y:=by
 unfold eLi at h
 simp only[List.cons.injEq,AV.ro.injEq,and_true] at h
 exact(List.map_inj_right (fun a b hab=>eI_inj hab)).1 h
noncomputable def spCl :Spec:=spN.tell 33 (byE eLi (fun l=>l≠[]∧l.length≤1000000) (fun l=>.ro (l.map eI)))
theorem spCl_at {l:List Int}:spCl.call 33 [.ro (l.map eI)]=some ((l≠[]∧l.length≤1000000),.ro (l.map eI),[]):=by
 unfold spCl
 rw[tell_same]
 exact byE_eq eLi_inj l
theorem spCl_ok (w:World) {fp:Nat→Prop}:SpecOk Tryz.prog spCl w fp:=
 tell_ok (spN_ok w) (enters_of' Tryz.func33 (by kernel_rfl)) (byE_ok fun a h w' _=>clone_con a h.1 h.2 w')
theorem spCl_lit :(spCl.lit=true)=False:=eq_false (fun h=>by cases h)
theorem rests_con (X:List RecM) (hX:Sml X) (hne:∀r∈X,r.op=12→r.list≠[]) (w:World):ConAt Tryz.prog w 14 [.ro (cRl X)] (.ro (cLs (restsM X))) []:=by
 obtain⟨hX,hL⟩:=hX
 refine con_of_aw (sp:=spCl) (Φ:=fun _=>True) [] (fun w _=>spCl_ok w) (by kernel_rfl) Tryz.func14 rfl ?_ w trivial
 intro hLen
 simp only[Tryz.ntmps14,List.length_cons,List.length_nil,Nat.reduceAdd,Nat.reduceSub,List.replicate_succ,List.replicate_zero,List.cons_append,List.nil_append]
 have hR:=Tryz.results14
 have hll:=cRl_len X
 simp (maxSteps:=2000000) only[↓awA,awB,evA,envE,ofV,putE,listH,setRow,spl,oneP,guardB,frzA,mapO,allSc,closeA,shiftA,shiftR,flatA,flat0,scA,Row.len,fillW,rep,chunks,closed1,Value.oneCell',Nat.reduceAdd,reduceIte,reduceCtorEq,Nat.reduceLT,Nat.reduceLeDiff,Nat.reduceEqDiff,Nat.reduceSub,Nat.reduceMul,frz1,frzR,eq_self,and_self,tys,  hR,hll]
 refine aw_loop (fun i:Nat=>[.dead,.dead,.dead,.sl 0 (restsM (X.take i)).length,.dead,.dead,.ro (cRl X),.sc (.int .i64 (X.length:Int)),.sc (.int .i64 (i:Int))]++deads 14) (fun i=>[.lst 1 (cLs (restsM (X.take i))) 32])
  (fun i=>i≤X.length) (fun i=>X.length - i) 0 ?_ (Nat.zero_le _) ?_ (fun _ _=>by rw[show spCl.pins=0 from rfl];trivial)
 · simp[Weak,weakL,weakR,weakV,nilV,nilR,okA,listH,deads,pinR,isVarB,pin_pins,  restsM,cLs]
 intro i hi
 simp only[deads,List.replicate_succ,List.replicate_zero,List.cons_append,List.nil_append]
 have hcl:∀L:List (List Int),(cLs L).length=L.length:=fun L=>by unfold cLs;rw[List.length_map]
 by_cases hlt:i<X.length
 · obtain⟨r,hr⟩:∃r,X[i]? =some r:=⟨_,List.getElem?_eq_getElem hlt⟩
   have e2:=cRl_at hr
   have hw:=wr_lt hlt (by omega)
   have hrl:=hL r (List.mem_of_getElem? hr)
   have hsn:=restsM_snoc (X.take i) r
   rw[←take_at hr] at hsn
   have hle:=restsM_le (X.take i)
   rw[List.length_take] at hle
   have d1:((r.op:Int)==12)=decide (r.op=12):=by rw[Bool.eq_iff_iff,beq_iff_eq,decide_eq_true_eq];omega
   cases p1:decide (r.op=12)
   · have hp:=of_decide_eq_false p1
     rw[if_neg hp,List.append_nil] at hsn
     simp (maxSteps:=2000000) only[↓awA,awB,evA,envE,ofV,putE,listH,setRow,spl,oneP,guardB,frzA,mapO,allSc,closeA,shiftA,shiftR,flatA,flat0,scA,Row.len,fillW,rep,chunks,closed1,Value.oneCell',Nat.reduceAdd,reduceIte,reduceCtorEq,Nat.reduceLT,Nat.reduceLeDiff,Nat.reduceEqDiff,Nat.reduceSub,Nat.reduceMul,frz1,frzR,eq_self,and_self,tys,  hlt,hll,e2,cR,d1,p1]
     refine loopQ_next (i+1) ?_ hlt (by omega)
     simp[Weak,weakL,weakR,weakV,nilV,nilR,okA,listH,deads,pinR,isVarB,pin_pins,  hw,hsn]
   · have hp:=of_decide_eq_true p1
     rw[if_pos hp] at hsn
     have hn:=hne r (List.mem_of_getElem? hr) hp
     have hcs:cLs (restsM (X.take i))++[[.ro (r.list.map eI)]]=cLs (restsM (X.take (i+1))):=by
      rw[hsn]
      unfold cLs
      rw[List.map_append]
      rfl
     have hb:((restsM (X.take i)).length+1)*24≤140737488355328:=by omega
     have hln:(restsM (X.take (i+1))).length=(restsM (X.take i)).length+1:=by rw[hsn,List.length_append];rfl
     simp (maxSteps:=2000000) only[↓awA,awB,evA,envE,ofV,putE,listH,setRow,spl,oneP,guardB,frzA,mapO,allSc,closeA,shiftA,shiftR,flatA,flat0,scA,Row.len,fillW,rep,chunks,closed1,Value.oneCell',Nat.reduceAdd,reduceIte,reduceCtorEq,Nat.reduceLT,Nat.reduceLeDiff,Nat.reduceEqDiff,Nat.reduceSub,Nat.reduceMul,frz1,frzR,eq_self,and_self,tys,  hlt,hll,e2,cR,d1,p1,spCl_at,hn,hrl,spCl_lit,hcs,hb,hcl]
     refine loopQ_next (i+1) ?_ hlt (by omega)
     simp[Weak,weakL,weakR,weakV,nilV,nilR,okA,listH,deads,pinR,isVarB,pin_pins,  hw,hcl,hln]
 · have hti:X.take i=X:=List.take_of_length_le (by omega)
   rw[hti]
   simp (maxSteps:=2000000) only[↓awA,awB,evA,envE,ofV,putE,listH,setRow,spl,oneP,guardB,frzA,mapO,allSc,closeA,shiftA,shiftR,flatA,flat0,scA,Row.len,fillW,rep,chunks,closed1,Value.oneCell',Nat.reduceAdd,reduceIte,reduceCtorEq,Nat.reduceLT,Nat.reduceLeDiff,Nat.reduceEqDiff,Nat.reduceSub,Nat.reduceMul,frz1,frzR,eq_self,and_self,tys,  hlt,hR,hcl]
end Go.Proofs.YtpjodoipceddpaaGreatDoor.Aw
