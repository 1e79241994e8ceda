/- Traces: whether a record may be, to the document, walked abstractly. -/
import Derived.Test.YtpjodoipceddpaaGreatDoorRecGh
namespace Go.Proofs.YtpjodoipceddpaaGreatDoor.Aw
open Go.RowKit Go.Lib Rc
set_option maxHeartbeats 8000000
set_option maxRecDepth 100000
theorem place31_con (n:Int) (w:World):ConAt Tryz.prog w 35 (eI n) (.sc (.bool (place n))) []:=by
 unfold place eI
 refine con_of_aw (sp:=spN) (Φ:=fun _=>True) [] (fun w _=>spN_ok w) (by kernel_rfl) Tryz.func35 rfl ?_ w trivial
 intro hLen
 simp only[Tryz.ntmps35,List.length_cons,List.length_nil,Nat.reduceAdd,Nat.reduceSub,List.replicate_succ,List.replicate_zero,List.cons_append,List.nil_append]
 cases h1:decide (n≥0)
 · have e:decide (0≤n)=false:=h1
   simp (maxSteps:=2000000) only[↓awA,awB,evA,envE,ofV,putE,listH,setRow,spl,oneP,guardB,frzA,mapO,allSc,closeA,shiftA,shiftR,flatA,flat0,scA,Row.len,fillW,rep,chunks,closed1,Value.oneCell',Nat.reduceAdd,reduceIte,reduceCtorEq,Nat.reduceLT,Nat.reduceLeDiff,Nat.reduceEqDiff,Nat.reduceSub,Nat.reduceMul,frz1,frzR,eq_self,and_self,tys,  h1,e,Tryz.results35]
 · have e:decide (0≤n)=true:=h1
   simp (maxSteps:=2000000) only[↓awA,awB,evA,envE,ofV,putE,listH,setRow,spl,oneP,guardB,frzA,mapO,allSc,closeA,shiftA,shiftR,flatA,flat0,scA,Row.len,fillW,rep,chunks,closed1,Value.oneCell',Nat.reduceAdd,reduceIte,reduceCtorEq,Nat.reduceLT,Nat.reduceLeDiff,Nat.reduceEqDiff,Nat.reduceSub,Nat.reduceMul,frz1,frzR,eq_self,and_self,tys,  h1,e,Tryz.results35]
noncomputable def spJ :Spec:=spN.tell 35 (byE eI (fun _=>True) (fun n=>.sc (.bool (place n))))
theorem spJ_place {n:Int}:spJ.call 35 [.sc (.int .i64 n)]=some (True,.sc (.bool (place n)),[]):=by
 unfold spJ
 rw[tell_same]
 exact byE_eq (fun _ _=>eI_inj) n
theorem spJ_ok (w:World) {fp:Nat→Prop}:SpecOk Tryz.prog spJ w fp:=
 tell_ok (spN_ok w) (enters_of' Tryz.func35 (by kernel_rfl)) (byE_ok fun a _ w _=>place31_con a w)
theorem rising31_con (l:List Int) (w:World):ConAt Tryz.prog w 37 (eL l) (.sc (.bool (rising l))) []:=by
 unfold eL
 refine con_of_aw (sp:=spJ) (Φ:=fun _=>True) [] (fun w _=>spJ_ok w) (by kernel_rfl) Tryz.func37 rfl ?_ w trivial
 intro hLen
 simp only[Tryz.ntmps37,List.length_cons,List.length_nil,Nat.reduceAdd,Nat.reduceSub,List.replicate_succ,List.replicate_zero,List.cons_append,List.nil_append]
 have hl:l.length≤9223372036854775807:=len_ro (x:=.dead) (hLen _ List.mem_cons_self)
 simp (maxSteps:=2000000) only[↓awA,awB,evA,envE,ofV,putE,listH,setRow,spl,oneP,guardB,frzA,mapO,allSc,closeA,shiftA,shiftR,flatA,flat0,scA,Row.len,fillW,rep,chunks,closed1,Value.oneCell',Nat.reduceAdd,reduceIte,reduceCtorEq,Nat.reduceLT,Nat.reduceLeDiff,Nat.reduceEqDiff,Nat.reduceSub,Nat.reduceMul,frz1,frzR,eq_self,and_self,tys,  Tryz.results37]
 refine aw_loop (fun i:Nat=>[.ro (l.map eI),.dead,.dead,.sc (.int .i64 (i:Int))]++deads 31) (fun _=>[]) (fun i=>i≤l.length∧allN (risAt l) 0 l.length=allN (risAt l) i (l.length - i)) (fun i=>l.length - i) 0 ?_ ⟨Nat.zero_le _,rfl⟩ ?_
 · simp[Weak,weakL,weakR,weakV,nilV,nilR,okA,listH,deads,pinR,isVarB,pin_pins]
 rintro i ⟨hi,hA⟩
 simp only[deads,List.replicate_succ,List.replicate_zero,List.cons_append,List.nil_append]
 unfold rising
 by_cases hlt:i<l.length
 · obtain⟨x,hx⟩:∃x,l[i]? =some x:=⟨_,List.getElem?_eq_getElem hlt⟩
   have e2:at_ (l.map eI) i=eI x:=at_some hx
   have hw:=wr_lt hlt hl
   have hA2:allN (risAt l) 0 l.length=(risAt l i && allN (risAt l) (i+1) (l.length - (i+1))):=by rw[hA,show l.length - i=(l.length - (i+1))+1 by omega,allN]
   have hg:l.getD i 0=x:=by rw[List.getD_eq_getElem?_getD,hx];rfl
   have hat:risAt l i=(place x && (decide (i=0)||decide (l.getD (i - 1) 0<x))):=by unfold risAt;rw[hg]
   cases hp:place x
   · rw[hA2,hat,hp]
     simp (maxSteps:=2000000) only[↓awA,awB,evA,envE,ofV,putE,listH,setRow,spl,oneP,guardB,frzA,mapO,allSc,closeA,shiftA,shiftR,flatA,flat0,scA,Row.len,fillW,rep,chunks,closed1,Value.oneCell',Nat.reduceAdd,reduceIte,reduceCtorEq,Nat.reduceLT,Nat.reduceLeDiff,Nat.reduceEqDiff,Nat.reduceSub,Nat.reduceMul,frz1,frzR,eq_self,and_self,tys,  hlt,e2,eI,spJ_place,hp,Tryz.results37]
     exact Dr_of (by kernel_rfl)
   · cases h0:decide ((i:Int)>0)
     · have hz:i=0:=by have:=of_decide_eq_false h0;omega
       have hat:risAt l i=true:=by rw[hat,hp,decide_eq_true hz];rfl
       rw[hat,Bool.true_and] at hA2
       simp (maxSteps:=2000000) only[↓awA,awB,evA,envE,ofV,putE,listH,setRow,spl,oneP,guardB,frzA,mapO,allSc,closeA,shiftA,shiftR,flatA,flat0,scA,Row.len,fillW,rep,chunks,closed1,Value.oneCell',Nat.reduceAdd,reduceIte,reduceCtorEq,Nat.reduceLT,Nat.reduceLeDiff,Nat.reduceEqDiff,Nat.reduceSub,Nat.reduceMul,frz1,frzR,eq_self,and_self,tys,  hlt,e2,eI,spJ_place,hp,h0]
       repeat (refine And.intro (Dr_of (by kernel_rfl)) ?_)
       refine loopQ_next (i+1) ?_ ⟨hlt,hA2⟩ (by omega)
       simp[Weak,weakL,weakR,weakV,nilV,nilR,okA,listH,deads,pinR,isVarB,pin_pins,  hw]
     · have hz:¬i=0:=by have:=of_decide_eq_true h0;omega
       obtain⟨j,rfl⟩:∃j,i=j+1:=⟨i - 1,by omega⟩
       have hj:j<l.length:=by omega
       obtain⟨y,hy⟩:∃y,l[j]? =some y:=⟨_,List.getElem?_eq_getElem hj⟩
       have e3:at_ (l.map eI) j=eI y:=at_some hy
       have hw2:=wr_pred (i:=j) (by omega)
       have hg2:l.getD (j+1 - 1) 0=y:=by rw[Nat.add_sub_cancel,List.getD_eq_getElem?_getD,hy];rfl
       rw[hg2,hp,decide_eq_false hz,Bool.true_and,Bool.false_or] at hat
       cases hc:decide (x≤y)
       · have hc2:decide (y<x)=true:=by have:=of_decide_eq_false hc;exact decide_eq_true (by omega)
         rw[hat,hc2,Bool.true_and] at hA2
         simp (maxSteps:=2000000) only[↓awA,awB,evA,envE,ofV,putE,listH,setRow,spl,oneP,guardB,frzA,mapO,allSc,closeA,shiftA,shiftR,flatA,flat0,scA,Row.len,fillW,rep,chunks,closed1,Value.oneCell',Nat.reduceAdd,reduceIte,reduceCtorEq,Nat.reduceLT,Nat.reduceLeDiff,Nat.reduceEqDiff,Nat.reduceSub,Nat.reduceMul,frz1,frzR,eq_self,and_self,tys,  hlt,hj,e2,e3,eI,spJ_place,hp,h0,hw2,hc]
         repeat (refine And.intro (Dr_of (by kernel_rfl)) ?_)
         refine loopQ_next (j+1+1) ?_ ⟨hlt,hA2⟩ (by omega)
         have hw3:=IntWalk.i64_in ((j:Int)+1+1) (by omega)
         simp[Weak,weakL,weakR,weakV,nilV,nilR,okA,listH,deads,pinR,isVarB,pin_pins,  hw3]
       · have hc2:decide (y<x)=false:=by have:=of_decide_eq_true hc;exact decide_eq_false (by omega)
         rw[hA2,hat,hc2]
         simp (maxSteps:=2000000) only[↓awA,awB,evA,envE,ofV,putE,listH,setRow,spl,oneP,guardB,frzA,mapO,allSc,closeA,shiftA,shiftR,flatA,flat0,scA,Row.len,fillW,rep,chunks,closed1,Value.oneCell',Nat.reduceAdd,reduceIte,reduceCtorEq,Nat.reduceLT,Nat.reduceLeDiff,Nat.reduceEqDiff,Nat.reduceSub,Nat.reduceMul,frz1,frzR,eq_self,and_self,tys,  hlt,hj,e2,e3,eI,spJ_place,hp,h0,hw2,hc,Tryz.results37]
         exact Dr_of (by kernel_rfl)
 · rw[hA,show l.length - i=0 by omega,allN,Bool.true_and]
   have e:decide ((l.length:Int)>0)=decide (0<l.length):=decide_eq_decide.2 (by omega)
   simp (maxSteps:=2000000) only[↓awA,awB,evA,envE,ofV,putE,listH,setRow,spl,oneP,guardB,frzA,mapO,allSc,closeA,shiftA,shiftR,flatA,flat0,scA,Row.len,fillW,rep,chunks,closed1,Value.oneCell',Nat.reduceAdd,reduceIte,reduceCtorEq,Nat.reduceLT,Nat.reduceLeDiff,Nat.reduceEqDiff,Nat.reduceSub,Nat.reduceMul,frz1,frzR,eq_self,and_self,tys,  hlt,e,Tryz.results37]
theorem rests31_con (l:List Int) (w:World):ConAt Tryz.prog w 38 (eL l) (.sc (.bool (rests l))) []:=by
 unfold eL
 refine con_of_aw (sp:=spN) (Φ:=fun _=>True) [] (fun w _=>spN_ok w) (by kernel_rfl) Tryz.func38 rfl ?_ w trivial
 intro hLen
 simp only[Tryz.ntmps38,List.length_cons,List.length_nil,Nat.reduceAdd,Nat.reduceSub,List.replicate_succ,List.replicate_zero,List.cons_append,List.nil_append]
 have hl:l.length≤9223372036854775807:=len_ro (x:=.dead) (hLen _ List.mem_cons_self)
 simp (maxSteps:=2000000) only[↓awA,awB,evA,envE,ofV,putE,listH,setRow,spl,oneP,guardB,frzA,mapO,allSc,closeA,shiftA,shiftR,flatA,flat0,scA,Row.len,fillW,rep,chunks,closed1,Value.oneCell',Nat.reduceAdd,reduceIte,reduceCtorEq,Nat.reduceLT,Nat.reduceLeDiff,Nat.reduceEqDiff,Nat.reduceSub,Nat.reduceMul,frz1,frzR,eq_self,and_self,tys,  Tryz.results38]
 refine aw_loop (fun i:Nat=>[.ro (l.map eI),.dead,.dead,.sc (.int .i64 (i:Int))]++deads 26) (fun _=>[]) (fun i=>i≤l.length∧l.all restAt=(l.drop i).all restAt) (fun i=>l.length - i) 0 ?_ ⟨Nat.zero_le _,rfl⟩ ?_
 · simp[Weak,weakL,weakR,weakV,nilV,nilR,okA,listH,deads,pinR,isVarB,pin_pins]
 rintro i ⟨hi,hA⟩
 simp only[deads,List.replicate_succ,List.replicate_zero,List.cons_append,List.nil_append]
 unfold rests
 by_cases hlt:i<l.length
 · obtain⟨x,hx⟩:∃x,l[i]? =some x:=⟨_,List.getElem?_eq_getElem hlt⟩
   have e2:at_ (l.map eI) i=eI x:=at_some hx
   have hw:=wr_lt hlt hl
   rw[drop_at hx,List.all_cons] at hA
   cases h1:decide (x< -1)
   · cases h2:decide (x≥512)
     · have hr:restAt x=true:=by
        have a1:=of_decide_eq_false h1
        have a2:=of_decide_eq_false h2
        unfold restAt
        rw[decide_eq_true (by omega),decide_eq_true (by omega)]
        rfl
       rw[hr,Bool.true_and] at hA
       simp (maxSteps:=2000000) only[↓awA,awB,evA,envE,ofV,putE,listH,setRow,spl,oneP,guardB,frzA,mapO,allSc,closeA,shiftA,shiftR,flatA,flat0,scA,Row.len,fillW,rep,chunks,closed1,Value.oneCell',Nat.reduceAdd,reduceIte,reduceCtorEq,Nat.reduceLT,Nat.reduceLeDiff,Nat.reduceEqDiff,Nat.reduceSub,Nat.reduceMul,frz1,frzR,eq_self,and_self,tys,  hlt,e2,eI,h1,h2]
       refine loopQ_next (i+1) ?_ ⟨hlt,hA⟩ (by omega)
       simp[Weak,weakL,weakR,weakV,nilV,nilR,okA,listH,deads,pinR,isVarB,pin_pins,  hw]
     · have hr:restAt x=false:=by
        have a2:=of_decide_eq_true h2
        unfold restAt
        rw[decide_eq_false (show ¬x<512 by omega),Bool.and_false]
       rw[hA,hr]
       simp (maxSteps:=2000000) only[↓awA,awB,evA,envE,ofV,putE,listH,setRow,spl,oneP,guardB,frzA,mapO,allSc,closeA,shiftA,shiftR,flatA,flat0,scA,Row.len,fillW,rep,chunks,closed1,Value.oneCell',Nat.reduceAdd,reduceIte,reduceCtorEq,Nat.reduceLT,Nat.reduceLeDiff,Nat.reduceEqDiff,Nat.reduceSub,Nat.reduceMul,frz1,frzR,eq_self,and_self,tys,  hlt,e2,eI,h1,h2,Tryz.results38]
   · have hr:restAt x=false:=by
      have a2:=of_decide_eq_true h1
      unfold restAt
      rw[decide_eq_false (show ¬ -1≤x by omega),Bool.false_and]
     rw[hA,hr]
     simp (maxSteps:=2000000) only[↓awA,awB,evA,envE,ofV,putE,listH,setRow,spl,oneP,guardB,frzA,mapO,allSc,closeA,shiftA,shiftR,flatA,flat0,scA,Row.len,fillW,rep,chunks,closed1,Value.oneCell',Nat.reduceAdd,reduceIte,reduceCtorEq,Nat.reduceLT,Nat.reduceLeDiff,Nat.reduceEqDiff,Nat.reduceSub,Nat.reduceMul,frz1,frzR,eq_self,and_self,tys,  hlt,e2,eI,h1,Tryz.results38]
 · rw[hA,List.drop_of_length_le (by omega),List.all_nil,Bool.true_and]
   have e:decide (0<l.length)=decide ((l.length:Int)>0):=decide_eq_decide.2 (by omega)
   have e2:decide (l.length≤512)=decide ((l.length:Int)≤512):=decide_eq_decide.2 (by omega)
   rw[e,e2]
   cases h1:decide ((l.length:Int)>0)
   · simp (maxSteps:=2000000) only[↓awA,awB,evA,envE,ofV,putE,listH,setRow,spl,oneP,guardB,frzA,mapO,allSc,closeA,shiftA,shiftR,flatA,flat0,scA,Row.len,fillW,rep,chunks,closed1,Value.oneCell',Nat.reduceAdd,reduceIte,reduceCtorEq,Nat.reduceLT,Nat.reduceLeDiff,Nat.reduceEqDiff,Nat.reduceSub,Nat.reduceMul,frz1,frzR,eq_self,and_self,tys,  hlt,h1,Tryz.results38]
   · simp (maxSteps:=2000000) only[↓awA,awB,evA,envE,ofV,putE,listH,setRow,spl,oneP,guardB,frzA,mapO,allSc,closeA,shiftA,shiftR,flatA,flat0,scA,Row.len,fillW,rep,chunks,closed1,Value.oneCell',Nat.reduceAdd,reduceIte,reduceCtorEq,Nat.reduceLT,Nat.reduceLeDiff,Nat.reduceEqDiff,Nat.reduceSub,Nat.reduceMul,frz1,frzR,eq_self,and_self,tys,  hlt,h1,Tryz.results38]
def cR (r:RecM):List AV:=[.sc (.int .u8 (r.op:Int)),.sc (.int .i64 r.at_),.sc (.string (bt r.name)),.sc (.int .i64 r.arg),.ro (r.list.map eI)]
def eR (r:RecM):List AV:=[.agg (cR r)]
theorem cR_inj {x y:RecM} (h:cR x=cR y):x=y:=by
 unfold cR at h
 simp only[List.cons.injEq,AV.sc.injEq,Value.int.injEq,Value.string.injEq,AV.ro.injEq,and_true,true_and] at h
 obtain⟨h1,h2,h3,h4,h5⟩:=h
 have h5:=(List.map_inj_right (fun a b hab=>eI_inj hab)).1 h5
 have h3:=bt_inj h3
 have h1:=Int.ofNat_inj.1 h1
 cases x;cases y
 simp_all
theorem eR_inj (x y:RecM) (h:eR x=eR y):x=y:=by
 unfold eR at h
 simp only[List.cons.injEq,AV.agg.injEq,and_true] at h
 exact cR_inj h
noncomputable def spK :Spec:=(((spJ.tell 37 (byE eL (fun _=>True) (fun l=>.sc (.bool (rising l))))).tell 38 (byE eL (fun _=>True) (fun l=>.sc (.bool (rests l))))).tell
 36 (byE eS (fun s=>s.size≤9223372036854775807) (fun s=>.sc (.int .u8 (isR s.data.toList:Nat)))))
theorem spK_place {n:Int}:spK.call 35 [.sc (.int .i64 n)]=some (True,.sc (.bool (place n)),[]):=by
 unfold spK
 rw[tell_ne (by rfl),tell_ne (by rfl),tell_ne (by rfl)]
 exact spJ_place
theorem spK_rising {l:List Int}:spK.call 37 [.ro (l.map eI)]=some (True,.sc (.bool (rising l)),[]):=by
 unfold spK
 rw[tell_ne (by rfl),tell_ne (by rfl),tell_same]
 exact byE_eq eL_inj l
theorem spK_rests {l:List Int}:spK.call 38 [.ro (l.map eI)]=some (True,.sc (.bool (rests l)),[]):=by
 unfold spK
 rw[tell_ne (by rfl),tell_same]
 exact byE_eq eL_inj l
theorem spK_is {t:T}:spK.call 36 [.sc (.string (bt t))]=some ((bt t).size≤9223372036854775807,.sc (.int .u8 (isR t:Nat)),[]):=by
 unfold spK
 rw[tell_same]
 have:=byE_eq (pre:=fun s:ByteArray=>s.size≤9223372036854775807) (r:=fun s=>AV.sc (.int .u8 (isR s.data.toList:Nat))) (fun _ _=>eS_inj) (bt t)
 rw[list_bt] at this
 exact this
theorem spK_ok (w:World) {fp:Nat→Prop}:SpecOk Tryz.prog spK w fp:=
 tell_ok (tell_ok (tell_ok (spJ_ok w) (enters_of' Tryz.func37 (by kernel_rfl)) (byE_ok fun a _ w _=>rising31_con a w)) (enters_of' Tryz.func38 (by kernel_rfl)) (byE_ok fun a _ w _=>rests31_con a w))
  (enters_of' Tryz.func36 (by kernel_rfl)) (byE_ok fun a h w _=>is7_con a h w)
theorem nil_dec (t:T):decide (bt t=⟨#[]⟩)=decide (t=[]):=by rw[isEmpty_dec,list_bt]
theorem len0_dec (l:List Int):((l.length:Int)==0)=decide (l=[]):=by
 rw[Bool.eq_iff_iff,beq_iff_eq,decide_eq_true_eq]
 cases l<;>simp<;>omega
theorem len1_dec (l:List Int):((l.length:Int)==1)=decide (l.length=1):=by
 rw[Bool.eq_iff_iff,beq_iff_eq,decide_eq_true_eq]
 omega
theorem is2_nm (t:T):(((isR t:Nat):Int)==2)=nmB t:=by
 rw[←isR_nm,Bool.eq_iff_iff,beq_iff_eq,beq_iff_eq]
 omega
theorem may31_con (r:RecM) (hn:r.name.length≤9223372036854775807) (w:World):ConAt Tryz.prog w 18 (eR r) (.sc (.bool (mayB nmB r))) []:=by
 obtain⟨o,a,n,g,l⟩:=r
 unfold eR cR
 simp only at hn
 refine con_of_aw (sp:=spK) (Φ:=fun _=>True) [] (fun w _=>spK_ok w) (by kernel_rfl) Tryz.func18 rfl ?_ w trivial
 intro hLen
 simp only[Tryz.ntmps18,List.length_cons,List.length_nil,Nat.reduceAdd,Nat.reduceSub,List.replicate_succ,List.replicate_zero,List.cons_append,List.nil_append]
 have hsz:(bt n).size≤9223372036854775807:=hn
 have q1:=nil_dec n
 have q3:=len0_dec l
 have q4:=len1_dec l
 have hR:=Tryz.results18
 unfold mayB
 simp only
 have hop:o=3∨o=4∨o=5∨o=7∨o=6∨o=8∨o=9∨o=10∨o=11∨o=12∨o=13∨(o≠3∧o≠4∧o≠5∧o≠7∧o≠6∧o≠8∧o≠9∧o≠10∧o≠11∧o≠12∧o≠13):=by omega
 have hz2:(0:Int)≤0:=Int.le_refl 0
 have hz:Int.toNat 0=0:=rfl
 have dg:decide (g=0)=(g==0):=rfl
 have da:decide (a=0)=(a==0):=rfl
 rcases hop with rfl|rfl|rfl|rfl|rfl|rfl|rfl|rfl|rfl|rfl|rfl|ho
 · have ek:((3:Nat):Int)=3:=rfl
   cases p1:decide (n=[])
   · simp (maxSteps:=2000000) only[↓awA,awB,evA,envE,ofV,putE,listH,setRow,spl,oneP,guardB,frzA,mapO,allSc,closeA,shiftA,shiftR,flatA,flat0,scA,Row.len,fillW,rep,chunks,closed1,Value.oneCell',Nat.reduceAdd,reduceIte,reduceCtorEq,Nat.reduceLT,Nat.reduceLeDiff,Nat.reduceEqDiff,Nat.reduceSub,Nat.reduceMul,frz1,frzR,eq_self,and_self,tys,  q1,q3,q4,da,p1,ek,Int.reduceBEq,true_or,or_true,or_self,decide_true,decide_false,hR]
   · cases p2:(g==0)
     · simp (maxSteps:=2000000) only[↓awA,awB,evA,envE,ofV,putE,listH,setRow,spl,oneP,guardB,frzA,mapO,allSc,closeA,shiftA,shiftR,flatA,flat0,scA,Row.len,fillW,rep,chunks,closed1,Value.oneCell',Nat.reduceAdd,reduceIte,reduceCtorEq,Nat.reduceLT,Nat.reduceLeDiff,Nat.reduceEqDiff,Nat.reduceSub,Nat.reduceMul,frz1,frzR,eq_self,and_self,tys,  q1,q3,q4,da,p1,dg,p2,ek,Int.reduceBEq,true_or,or_true,or_self,decide_true,decide_false,hR]
     · cases p3:decide (l=[])
       · simp (maxSteps:=2000000) only[↓awA,awB,evA,envE,ofV,putE,listH,setRow,spl,oneP,guardB,frzA,mapO,allSc,closeA,shiftA,shiftR,flatA,flat0,scA,Row.len,fillW,rep,chunks,closed1,Value.oneCell',Nat.reduceAdd,reduceIte,reduceCtorEq,Nat.reduceLT,Nat.reduceLeDiff,Nat.reduceEqDiff,Nat.reduceSub,Nat.reduceMul,frz1,frzR,eq_self,and_self,tys,  q1,q3,q4,da,p1,dg,p2,p3,ek,Int.reduceBEq,true_or,or_true,or_self,decide_true,decide_false,hR]
       · simp (maxSteps:=2000000) only[↓awA,awB,evA,envE,ofV,putE,listH,setRow,spl,oneP,guardB,frzA,mapO,allSc,closeA,shiftA,shiftR,flatA,flat0,scA,Row.len,fillW,rep,chunks,closed1,Value.oneCell',Nat.reduceAdd,reduceIte,reduceCtorEq,Nat.reduceLT,Nat.reduceLeDiff,Nat.reduceEqDiff,Nat.reduceSub,Nat.reduceMul,frz1,frzR,eq_self,and_self,tys,  q1,q3,q4,da,p1,dg,p2,p3,spK_place,ek,Int.reduceBEq,true_or,or_true,or_self,decide_true,decide_false,hR]
 · have ek:((4:Nat):Int)=4:=rfl
   cases p1:decide (n=[])
   · simp (maxSteps:=2000000) only[↓awA,awB,evA,envE,ofV,putE,listH,setRow,spl,oneP,guardB,frzA,mapO,allSc,closeA,shiftA,shiftR,flatA,flat0,scA,Row.len,fillW,rep,chunks,closed1,Value.oneCell',Nat.reduceAdd,reduceIte,reduceCtorEq,Nat.reduceLT,Nat.reduceLeDiff,Nat.reduceEqDiff,Nat.reduceSub,Nat.reduceMul,frz1,frzR,eq_self,and_self,tys,  q1,q3,q4,da,p1,ek,Int.reduceBEq,true_or,or_true,or_self,decide_true,decide_false,hR]
   · cases p2:(g==0)
     · simp (maxSteps:=2000000) only[↓awA,awB,evA,envE,ofV,putE,listH,setRow,spl,oneP,guardB,frzA,mapO,allSc,closeA,shiftA,shiftR,flatA,flat0,scA,Row.len,fillW,rep,chunks,closed1,Value.oneCell',Nat.reduceAdd,reduceIte,reduceCtorEq,Nat.reduceLT,Nat.reduceLeDiff,Nat.reduceEqDiff,Nat.reduceSub,Nat.reduceMul,frz1,frzR,eq_self,and_self,tys,  q1,q3,q4,da,p1,dg,p2,ek,Int.reduceBEq,true_or,or_true,or_self,decide_true,decide_false,hR]
     · cases p3:decide (l=[])
       · simp (maxSteps:=2000000) only[↓awA,awB,evA,envE,ofV,putE,listH,setRow,spl,oneP,guardB,frzA,mapO,allSc,closeA,shiftA,shiftR,flatA,flat0,scA,Row.len,fillW,rep,chunks,closed1,Value.oneCell',Nat.reduceAdd,reduceIte,reduceCtorEq,Nat.reduceLT,Nat.reduceLeDiff,Nat.reduceEqDiff,Nat.reduceSub,Nat.reduceMul,frz1,frzR,eq_self,and_self,tys,  q1,q3,q4,da,p1,dg,p2,p3,ek,Int.reduceBEq,true_or,or_true,or_self,decide_true,decide_false,hR]
       · simp (maxSteps:=2000000) only[↓awA,awB,evA,envE,ofV,putE,listH,setRow,spl,oneP,guardB,frzA,mapO,allSc,closeA,shiftA,shiftR,flatA,flat0,scA,Row.len,fillW,rep,chunks,closed1,Value.oneCell',Nat.reduceAdd,reduceIte,reduceCtorEq,Nat.reduceLT,Nat.reduceLeDiff,Nat.reduceEqDiff,Nat.reduceSub,Nat.reduceMul,frz1,frzR,eq_self,and_self,tys,  q1,q3,q4,da,p1,dg,p2,p3,spK_place,ek,Int.reduceBEq,true_or,or_true,or_self,decide_true,decide_false,hR]
 · have ek:((5:Nat):Int)=5:=rfl
   cases p1:decide (n=[])
   · simp (maxSteps:=2000000) only[↓awA,awB,evA,envE,ofV,putE,listH,setRow,spl,oneP,guardB,frzA,mapO,allSc,closeA,shiftA,shiftR,flatA,flat0,scA,Row.len,fillW,rep,chunks,closed1,Value.oneCell',Nat.reduceAdd,reduceIte,reduceCtorEq,Nat.reduceLT,Nat.reduceLeDiff,Nat.reduceEqDiff,Nat.reduceSub,Nat.reduceMul,frz1,frzR,eq_self,and_self,tys,  q1,q3,q4,da,p1,ek,Int.reduceBEq,true_or,or_true,or_self,decide_true,decide_false,hR]
   · cases p2:(g==0)
     · simp (maxSteps:=2000000) only[↓awA,awB,evA,envE,ofV,putE,listH,setRow,spl,oneP,guardB,frzA,mapO,allSc,closeA,shiftA,shiftR,flatA,flat0,scA,Row.len,fillW,rep,chunks,closed1,Value.oneCell',Nat.reduceAdd,reduceIte,reduceCtorEq,Nat.reduceLT,Nat.reduceLeDiff,Nat.reduceEqDiff,Nat.reduceSub,Nat.reduceMul,frz1,frzR,eq_self,and_self,tys,  q1,q3,q4,da,p1,dg,p2,ek,Int.reduceBEq,true_or,or_true,or_self,decide_true,decide_false,hR]
     · cases p3:decide (l=[])
       · simp (maxSteps:=2000000) only[↓awA,awB,evA,envE,ofV,putE,listH,setRow,spl,oneP,guardB,frzA,mapO,allSc,closeA,shiftA,shiftR,flatA,flat0,scA,Row.len,fillW,rep,chunks,closed1,Value.oneCell',Nat.reduceAdd,reduceIte,reduceCtorEq,Nat.reduceLT,Nat.reduceLeDiff,Nat.reduceEqDiff,Nat.reduceSub,Nat.reduceMul,frz1,frzR,eq_self,and_self,tys,  q1,q3,q4,da,p1,dg,p2,p3,ek,Int.reduceBEq,true_or,or_true,or_self,decide_true,decide_false,hR]
       · simp (maxSteps:=2000000) only[↓awA,awB,evA,envE,ofV,putE,listH,setRow,spl,oneP,guardB,frzA,mapO,allSc,closeA,shiftA,shiftR,flatA,flat0,scA,Row.len,fillW,rep,chunks,closed1,Value.oneCell',Nat.reduceAdd,reduceIte,reduceCtorEq,Nat.reduceLT,Nat.reduceLeDiff,Nat.reduceEqDiff,Nat.reduceSub,Nat.reduceMul,frz1,frzR,eq_self,and_self,tys,  q1,q3,q4,da,p1,dg,p2,p3,spK_place,ek,Int.reduceBEq,true_or,or_true,or_self,decide_true,decide_false,hR]
 · have ek:((7:Nat):Int)=7:=rfl
   cases p1:decide (n=[])
   · simp (maxSteps:=2000000) only[↓awA,awB,evA,envE,ofV,putE,listH,setRow,spl,oneP,guardB,frzA,mapO,allSc,closeA,shiftA,shiftR,flatA,flat0,scA,Row.len,fillW,rep,chunks,closed1,Value.oneCell',Nat.reduceAdd,reduceIte,reduceCtorEq,Nat.reduceLT,Nat.reduceLeDiff,Nat.reduceEqDiff,Nat.reduceSub,Nat.reduceMul,frz1,frzR,eq_self,and_self,tys,  q1,q3,q4,da,p1,ek,Int.reduceBEq,true_or,or_true,or_self,decide_true,decide_false,hR]
   · cases p2:(g==0)
     · simp (maxSteps:=2000000) only[↓awA,awB,evA,envE,ofV,putE,listH,setRow,spl,oneP,guardB,frzA,mapO,allSc,closeA,shiftA,shiftR,flatA,flat0,scA,Row.len,fillW,rep,chunks,closed1,Value.oneCell',Nat.reduceAdd,reduceIte,reduceCtorEq,Nat.reduceLT,Nat.reduceLeDiff,Nat.reduceEqDiff,Nat.reduceSub,Nat.reduceMul,frz1,frzR,eq_self,and_self,tys,  q1,q3,q4,da,p1,dg,p2,ek,Int.reduceBEq,true_or,or_true,or_self,decide_true,decide_false,hR]
     · cases p3:decide (l=[])
       · simp (maxSteps:=2000000) only[↓awA,awB,evA,envE,ofV,putE,listH,setRow,spl,oneP,guardB,frzA,mapO,allSc,closeA,shiftA,shiftR,flatA,flat0,scA,Row.len,fillW,rep,chunks,closed1,Value.oneCell',Nat.reduceAdd,reduceIte,reduceCtorEq,Nat.reduceLT,Nat.reduceLeDiff,Nat.reduceEqDiff,Nat.reduceSub,Nat.reduceMul,frz1,frzR,eq_self,and_self,tys,  q1,q3,q4,da,p1,dg,p2,p3,ek,Int.reduceBEq,true_or,or_true,or_self,decide_true,decide_false,hR]
       · simp (maxSteps:=2000000) only[↓awA,awB,evA,envE,ofV,putE,listH,setRow,spl,oneP,guardB,frzA,mapO,allSc,closeA,shiftA,shiftR,flatA,flat0,scA,Row.len,fillW,rep,chunks,closed1,Value.oneCell',Nat.reduceAdd,reduceIte,reduceCtorEq,Nat.reduceLT,Nat.reduceLeDiff,Nat.reduceEqDiff,Nat.reduceSub,Nat.reduceMul,frz1,frzR,eq_self,and_self,tys,  q1,q3,q4,da,p1,dg,p2,p3,spK_place,ek,Int.reduceBEq,true_or,or_true,or_self,decide_true,decide_false,hR]
 · have ek:((6:Nat):Int)=6:=rfl
   cases p1:decide (n=[])
   · simp (maxSteps:=2000000) only[↓awA,awB,evA,envE,ofV,putE,listH,setRow,spl,oneP,guardB,frzA,mapO,allSc,closeA,shiftA,shiftR,flatA,flat0,scA,Row.len,fillW,rep,chunks,closed1,Value.oneCell',Nat.reduceAdd,reduceIte,reduceCtorEq,Nat.reduceLT,Nat.reduceLeDiff,Nat.reduceEqDiff,Nat.reduceSub,Nat.reduceMul,frz1,frzR,eq_self,and_self,tys,  q1,q3,q4,da,p1,ek,Int.reduceBEq,true_or,or_true,or_self,decide_true,decide_false,hR]
   · cases p2:(g==0)
     · simp (maxSteps:=2000000) only[↓awA,awB,evA,envE,ofV,putE,listH,setRow,spl,oneP,guardB,frzA,mapO,allSc,closeA,shiftA,shiftR,flatA,flat0,scA,Row.len,fillW,rep,chunks,closed1,Value.oneCell',Nat.reduceAdd,reduceIte,reduceCtorEq,Nat.reduceLT,Nat.reduceLeDiff,Nat.reduceEqDiff,Nat.reduceSub,Nat.reduceMul,frz1,frzR,eq_self,and_self,tys,  q1,q3,q4,da,p1,dg,p2,ek,Int.reduceBEq,true_or,or_true,or_self,decide_true,decide_false,hR]
     · cases p4:place a
       · simp (maxSteps:=2000000) only[↓awA,awB,evA,envE,ofV,putE,listH,setRow,spl,oneP,guardB,frzA,mapO,allSc,closeA,shiftA,shiftR,flatA,flat0,scA,Row.len,fillW,rep,chunks,closed1,Value.oneCell',Nat.reduceAdd,reduceIte,reduceCtorEq,Nat.reduceLT,Nat.reduceLeDiff,Nat.reduceEqDiff,Nat.reduceSub,Nat.reduceMul,frz1,frzR,eq_self,and_self,tys,  q1,q3,q4,da,p1,dg,p2,spK_place,p4,ek,Int.reduceBEq,true_or,or_true,or_self,decide_true,decide_false,hR]
       · cases p3:decide (l=[])
         · cases p5:decide (l.length=1)
           · simp (maxSteps:=2000000) only[↓awA,awB,evA,envE,ofV,putE,listH,setRow,spl,oneP,guardB,frzA,mapO,allSc,closeA,shiftA,shiftR,flatA,flat0,scA,Row.len,fillW,rep,chunks,closed1,Value.oneCell',Nat.reduceAdd,reduceIte,reduceCtorEq,Nat.reduceLT,Nat.reduceLeDiff,Nat.reduceEqDiff,Nat.reduceSub,Nat.reduceMul,frz1,frzR,eq_self,and_self,tys,  q1,q3,q4,da,p1,dg,p2,spK_place,p4,p3,p5,ek,Int.reduceBEq,true_or,or_true,or_self,decide_true,decide_false,hR]
           · obtain⟨x,hx⟩:=List.length_eq_one_iff.1 (of_decide_eq_true p5)
             have e0:at_ (List.map eI l) 0=eI x:=by rw[hx];rfl
             have e1:l.getD 0 0=x:=by rw[hx];rfl
             have h1:(0:Int)<l.length:=by rw[hx];simp
             simp (maxSteps:=2000000) only[↓awA,awB,evA,envE,ofV,putE,listH,setRow,spl,oneP,guardB,frzA,mapO,allSc,closeA,shiftA,shiftR,flatA,flat0,scA,Row.len,fillW,rep,chunks,closed1,Value.oneCell',Nat.reduceAdd,reduceIte,reduceCtorEq,Nat.reduceLT,Nat.reduceLeDiff,Nat.reduceEqDiff,Nat.reduceSub,Nat.reduceMul,frz1,frzR,eq_self,and_self,tys,  q1,q3,q4,da,p1,dg,p2,spK_place,p4,p3,p5,hz,hz2,e0,e1,h1,eI,ek,Int.reduceBEq,true_or,or_true,or_self,decide_true,decide_false,hR]
         · simp (maxSteps:=2000000) only[↓awA,awB,evA,envE,ofV,putE,listH,setRow,spl,oneP,guardB,frzA,mapO,allSc,closeA,shiftA,shiftR,flatA,flat0,scA,Row.len,fillW,rep,chunks,closed1,Value.oneCell',Nat.reduceAdd,reduceIte,reduceCtorEq,Nat.reduceLT,Nat.reduceLeDiff,Nat.reduceEqDiff,Nat.reduceSub,Nat.reduceMul,frz1,frzR,eq_self,and_self,tys,  q1,q3,q4,da,p1,dg,p2,spK_place,p4,p3,ek,Int.reduceBEq,true_or,or_true,or_self,decide_true,decide_false,hR]
 · have ek:((8:Nat):Int)=8:=rfl
   have hne:((l.length:Int) !=1)= !decide (l.length=1):=by rw[←q4];rfl
   cases p5:decide (l.length=1)
   · cases p1:decide (n=[])
     · simp (maxSteps:=2000000) only[↓awA,awB,evA,envE,ofV,putE,listH,setRow,spl,oneP,guardB,frzA,mapO,allSc,closeA,shiftA,shiftR,flatA,flat0,scA,Row.len,fillW,rep,chunks,closed1,Value.oneCell',Nat.reduceAdd,reduceIte,reduceCtorEq,Nat.reduceLT,Nat.reduceLeDiff,Nat.reduceEqDiff,Nat.reduceSub,Nat.reduceMul,frz1,frzR,eq_self,and_self,tys,  q1,q3,q4,da,p1,hne,p5,ek,Int.reduceBEq,true_or,or_true,or_self,decide_true,decide_false,hR]
     · simp (maxSteps:=2000000) only[↓awA,awB,evA,envE,ofV,putE,listH,setRow,spl,oneP,guardB,frzA,mapO,allSc,closeA,shiftA,shiftR,flatA,flat0,scA,Row.len,fillW,rep,chunks,closed1,Value.oneCell',Nat.reduceAdd,reduceIte,reduceCtorEq,Nat.reduceLT,Nat.reduceLeDiff,Nat.reduceEqDiff,Nat.reduceSub,Nat.reduceMul,frz1,frzR,eq_self,and_self,tys,  q1,q3,q4,da,p1,hne,p5,ek,Int.reduceBEq,true_or,or_true,or_self,decide_true,decide_false,hR]
   · obtain⟨k,hk⟩:=List.length_eq_one_iff.1 (of_decide_eq_true p5)
     have e0:at_ (List.map eI l) 0=eI k:=by rw[hk];rfl
     have e1:l.getD 0 0=k:=by rw[hk];rfl
     have h1:(0:Int)<l.length:=by rw[hk];simp
     cases p6:(k==2)
     · have h6:¬k=2:=beq_eq_false_iff_ne.1 p6
       rw[e1,if_neg h6]
       have dk1:decide (k=1)=(k==1):=rfl
       have dk3:decide (k=3)=(k==3):=rfl
       cases p1:decide (n=[])
       · simp (maxSteps:=2000000) only[↓awA,awB,evA,envE,ofV,putE,listH,setRow,spl,oneP,guardB,frzA,mapO,allSc,closeA,shiftA,shiftR,flatA,flat0,scA,Row.len,fillW,rep,chunks,closed1,Value.oneCell',Nat.reduceAdd,reduceIte,reduceCtorEq,Nat.reduceLT,Nat.reduceLeDiff,Nat.reduceEqDiff,Nat.reduceSub,Nat.reduceMul,frz1,frzR,eq_self,and_self,tys,  q1,q3,q4,da,p1,hne,p5,e0,eI,hz,hz2,p6,h1,ek,Int.reduceBEq,true_or,or_true,or_self,decide_true,decide_false,hR]
       · cases p2:(g==0)
         · simp (maxSteps:=2000000) only[↓awA,awB,evA,envE,ofV,putE,listH,setRow,spl,oneP,guardB,frzA,mapO,allSc,closeA,shiftA,shiftR,flatA,flat0,scA,Row.len,fillW,rep,chunks,closed1,Value.oneCell',Nat.reduceAdd,reduceIte,reduceCtorEq,Nat.reduceLT,Nat.reduceLeDiff,Nat.reduceEqDiff,Nat.reduceSub,Nat.reduceMul,frz1,frzR,eq_self,and_self,tys,  q1,q3,q4,da,p1,dg,p2,hne,p5,e0,eI,hz,hz2,p6,h1,ek,Int.reduceBEq,true_or,or_true,or_self,decide_true,decide_false,hR]
         · cases p4:place a
           · simp (maxSteps:=2000000) only[↓awA,awB,evA,envE,ofV,putE,listH,setRow,spl,oneP,guardB,frzA,mapO,allSc,closeA,shiftA,shiftR,flatA,flat0,scA,Row.len,fillW,rep,chunks,closed1,Value.oneCell',Nat.reduceAdd,reduceIte,reduceCtorEq,Nat.reduceLT,Nat.reduceLeDiff,Nat.reduceEqDiff,Nat.reduceSub,Nat.reduceMul,frz1,frzR,eq_self,and_self,tys,  q1,q3,q4,da,p1,dg,p2,hne,p5,e0,eI,hz,hz2,p6,h1,spK_place,p4,ek,Int.reduceBEq,true_or,or_true,or_self,decide_true,decide_false,hR]
           · cases p7:(k==1)
             · simp (maxSteps:=2000000) only[↓awA,awB,evA,envE,ofV,putE,listH,setRow,spl,oneP,guardB,frzA,mapO,allSc,closeA,shiftA,shiftR,flatA,flat0,scA,Row.len,fillW,rep,chunks,closed1,Value.oneCell',Nat.reduceAdd,reduceIte,reduceCtorEq,Nat.reduceLT,Nat.reduceLeDiff,Nat.reduceEqDiff,Nat.reduceSub,Nat.reduceMul,frz1,frzR,eq_self,and_self,tys,  q1,q3,q4,da,p1,dg,p2,hne,p5,e0,eI,hz,hz2,p6,h1,spK_place,p4,dk1,dk3,p7,ek,Int.reduceBEq,true_or,or_true,or_self,decide_true,decide_false,hR]
             · simp (maxSteps:=2000000) only[↓awA,awB,evA,envE,ofV,putE,listH,setRow,spl,oneP,guardB,frzA,mapO,allSc,closeA,shiftA,shiftR,flatA,flat0,scA,Row.len,fillW,rep,chunks,closed1,Value.oneCell',Nat.reduceAdd,reduceIte,reduceCtorEq,Nat.reduceLT,Nat.reduceLeDiff,Nat.reduceEqDiff,Nat.reduceSub,Nat.reduceMul,frz1,frzR,eq_self,and_self,tys,  q1,q3,q4,da,p1,dg,p2,hne,p5,e0,eI,hz,hz2,p6,h1,spK_place,p4,dk1,dk3,p7,ek,Int.reduceBEq,true_or,or_true,or_self,decide_true,decide_false,hR]
     · have h6:k=2:=beq_iff_eq.1 p6
       rw[e1,if_pos h6]
       have hi:=is2_nm n
       cases p4:(a==0)
       · cases p1:decide (n=[])
         · simp (maxSteps:=2000000) only[↓awA,awB,evA,envE,ofV,putE,listH,setRow,spl,oneP,guardB,frzA,mapO,allSc,closeA,shiftA,shiftR,flatA,flat0,scA,Row.len,fillW,rep,chunks,closed1,Value.oneCell',Nat.reduceAdd,reduceIte,reduceCtorEq,Nat.reduceLT,Nat.reduceLeDiff,Nat.reduceEqDiff,Nat.reduceSub,Nat.reduceMul,frz1,frzR,eq_self,and_self,tys,  q1,q3,q4,da,p1,hne,p5,e0,eI,hz,hz2,p6,h1,p4,ek,Int.reduceBEq,true_or,or_true,or_self,decide_true,decide_false,hR]
         · simp (maxSteps:=2000000) only[↓awA,awB,evA,envE,ofV,putE,listH,setRow,spl,oneP,guardB,frzA,mapO,allSc,closeA,shiftA,shiftR,flatA,flat0,scA,Row.len,fillW,rep,chunks,closed1,Value.oneCell',Nat.reduceAdd,reduceIte,reduceCtorEq,Nat.reduceLT,Nat.reduceLeDiff,Nat.reduceEqDiff,Nat.reduceSub,Nat.reduceMul,frz1,frzR,eq_self,and_self,tys,  q1,q3,q4,da,p1,hne,p5,e0,eI,hz,hz2,p6,h1,p4,ek,Int.reduceBEq,true_or,or_true,or_self,decide_true,decide_false,hR]
       · cases p1:decide (n=[])
         · simp (maxSteps:=2000000) only[↓awA,awB,evA,envE,ofV,putE,listH,setRow,spl,oneP,guardB,frzA,mapO,allSc,closeA,shiftA,shiftR,flatA,flat0,scA,Row.len,fillW,rep,chunks,closed1,Value.oneCell',Nat.reduceAdd,reduceIte,reduceCtorEq,Nat.reduceLT,Nat.reduceLeDiff,Nat.reduceEqDiff,Nat.reduceSub,Nat.reduceMul,frz1,frzR,eq_self,and_self,tys,  q1,q3,q4,da,p1,hne,p5,e0,eI,hz,hz2,p6,h1,p4,spK_is,hsz,hi,ek,Int.reduceBEq,true_or,or_true,or_self,decide_true,decide_false,hR]
         · simp (maxSteps:=2000000) only[↓awA,awB,evA,envE,ofV,putE,listH,setRow,spl,oneP,guardB,frzA,mapO,allSc,closeA,shiftA,shiftR,flatA,flat0,scA,Row.len,fillW,rep,chunks,closed1,Value.oneCell',Nat.reduceAdd,reduceIte,reduceCtorEq,Nat.reduceLT,Nat.reduceLeDiff,Nat.reduceEqDiff,Nat.reduceSub,Nat.reduceMul,frz1,frzR,eq_self,and_self,tys,  q1,q3,q4,da,p1,hne,p5,e0,eI,hz,hz2,p6,h1,p4,spK_is,hsz,hi,ek,Int.reduceBEq,true_or,or_true,or_self,decide_true,decide_false,hR]
 · have ek:((9:Nat):Int)=9:=rfl
   cases p1:decide (n=[])
   · simp (maxSteps:=2000000) only[↓awA,awB,evA,envE,ofV,putE,listH,setRow,spl,oneP,guardB,frzA,mapO,allSc,closeA,shiftA,shiftR,flatA,flat0,scA,Row.len,fillW,rep,chunks,closed1,Value.oneCell',Nat.reduceAdd,reduceIte,reduceCtorEq,Nat.reduceLT,Nat.reduceLeDiff,Nat.reduceEqDiff,Nat.reduceSub,Nat.reduceMul,frz1,frzR,eq_self,and_self,tys,  q1,q3,q4,da,p1,ek,Int.reduceBEq,true_or,or_true,or_self,decide_true,decide_false,hR]
   · cases p2:(g==0)
     · simp (maxSteps:=2000000) only[↓awA,awB,evA,envE,ofV,putE,listH,setRow,spl,oneP,guardB,frzA,mapO,allSc,closeA,shiftA,shiftR,flatA,flat0,scA,Row.len,fillW,rep,chunks,closed1,Value.oneCell',Nat.reduceAdd,reduceIte,reduceCtorEq,Nat.reduceLT,Nat.reduceLeDiff,Nat.reduceEqDiff,Nat.reduceSub,Nat.reduceMul,frz1,frzR,eq_self,and_self,tys,  q1,q3,q4,da,p1,dg,p2,ek,Int.reduceBEq,true_or,or_true,or_self,decide_true,decide_false,hR]
     · cases p4:(a==0)
       · simp (maxSteps:=2000000) only[↓awA,awB,evA,envE,ofV,putE,listH,setRow,spl,oneP,guardB,frzA,mapO,allSc,closeA,shiftA,shiftR,flatA,flat0,scA,Row.len,fillW,rep,chunks,closed1,Value.oneCell',Nat.reduceAdd,reduceIte,reduceCtorEq,Nat.reduceLT,Nat.reduceLeDiff,Nat.reduceEqDiff,Nat.reduceSub,Nat.reduceMul,frz1,frzR,eq_self,and_self,tys,  q1,q3,q4,da,p1,dg,p2,p4,ek,Int.reduceBEq,true_or,or_true,or_self,decide_true,decide_false,hR]
       · simp (maxSteps:=2000000) only[↓awA,awB,evA,envE,ofV,putE,listH,setRow,spl,oneP,guardB,frzA,mapO,allSc,closeA,shiftA,shiftR,flatA,flat0,scA,Row.len,fillW,rep,chunks,closed1,Value.oneCell',Nat.reduceAdd,reduceIte,reduceCtorEq,Nat.reduceLT,Nat.reduceLeDiff,Nat.reduceEqDiff,Nat.reduceSub,Nat.reduceMul,frz1,frzR,eq_self,and_self,tys,  q1,q3,q4,da,p1,dg,p2,p4,spK_rising,ek,Int.reduceBEq,true_or,or_true,or_self,decide_true,decide_false,hR]
 · have ek:((10:Nat):Int)=10:=rfl
   cases p1:decide (n=[])
   · simp (maxSteps:=2000000) only[↓awA,awB,evA,envE,ofV,putE,listH,setRow,spl,oneP,guardB,frzA,mapO,allSc,closeA,shiftA,shiftR,flatA,flat0,scA,Row.len,fillW,rep,chunks,closed1,Value.oneCell',Nat.reduceAdd,reduceIte,reduceCtorEq,Nat.reduceLT,Nat.reduceLeDiff,Nat.reduceEqDiff,Nat.reduceSub,Nat.reduceMul,frz1,frzR,eq_self,and_self,tys,  q1,q3,q4,da,p1,ek,Int.reduceBEq,true_or,or_true,or_self,decide_true,decide_false,hR]
   · cases p2:(g==0)
     · simp (maxSteps:=2000000) only[↓awA,awB,evA,envE,ofV,putE,listH,setRow,spl,oneP,guardB,frzA,mapO,allSc,closeA,shiftA,shiftR,flatA,flat0,scA,Row.len,fillW,rep,chunks,closed1,Value.oneCell',Nat.reduceAdd,reduceIte,reduceCtorEq,Nat.reduceLT,Nat.reduceLeDiff,Nat.reduceEqDiff,Nat.reduceSub,Nat.reduceMul,frz1,frzR,eq_self,and_self,tys,  q1,q3,q4,da,p1,dg,p2,ek,Int.reduceBEq,true_or,or_true,or_self,decide_true,decide_false,hR]
     · cases p3:decide (l=[])
       · simp (maxSteps:=2000000) only[↓awA,awB,evA,envE,ofV,putE,listH,setRow,spl,oneP,guardB,frzA,mapO,allSc,closeA,shiftA,shiftR,flatA,flat0,scA,Row.len,fillW,rep,chunks,closed1,Value.oneCell',Nat.reduceAdd,reduceIte,reduceCtorEq,Nat.reduceLT,Nat.reduceLeDiff,Nat.reduceEqDiff,Nat.reduceSub,Nat.reduceMul,frz1,frzR,eq_self,and_self,tys,  q1,q3,q4,da,p1,dg,p2,p3,ek,Int.reduceBEq,true_or,or_true,or_self,decide_true,decide_false,hR]
       · simp (maxSteps:=2000000) only[↓awA,awB,evA,envE,ofV,putE,listH,setRow,spl,oneP,guardB,frzA,mapO,allSc,closeA,shiftA,shiftR,flatA,flat0,scA,Row.len,fillW,rep,chunks,closed1,Value.oneCell',Nat.reduceAdd,reduceIte,reduceCtorEq,Nat.reduceLT,Nat.reduceLeDiff,Nat.reduceEqDiff,Nat.reduceSub,Nat.reduceMul,frz1,frzR,eq_self,and_self,tys,  q1,q3,q4,da,p1,dg,p2,p3,spK_place,ek,Int.reduceBEq,true_or,or_true,or_self,decide_true,decide_false,hR]
 · have ek:((11:Nat):Int)=11:=rfl
   cases p1:decide (n=[])
   · simp (maxSteps:=2000000) only[↓awA,awB,evA,envE,ofV,putE,listH,setRow,spl,oneP,guardB,frzA,mapO,allSc,closeA,shiftA,shiftR,flatA,flat0,scA,Row.len,fillW,rep,chunks,closed1,Value.oneCell',Nat.reduceAdd,reduceIte,reduceCtorEq,Nat.reduceLT,Nat.reduceLeDiff,Nat.reduceEqDiff,Nat.reduceSub,Nat.reduceMul,frz1,frzR,eq_self,and_self,tys,  q1,q3,q4,da,p1,ek,Int.reduceBEq,true_or,or_true,or_self,decide_true,decide_false,hR]
   · cases p2:(g==0)
     · simp (maxSteps:=2000000) only[↓awA,awB,evA,envE,ofV,putE,listH,setRow,spl,oneP,guardB,frzA,mapO,allSc,closeA,shiftA,shiftR,flatA,flat0,scA,Row.len,fillW,rep,chunks,closed1,Value.oneCell',Nat.reduceAdd,reduceIte,reduceCtorEq,Nat.reduceLT,Nat.reduceLeDiff,Nat.reduceEqDiff,Nat.reduceSub,Nat.reduceMul,frz1,frzR,eq_self,and_self,tys,  q1,q3,q4,da,p1,dg,p2,ek,Int.reduceBEq,true_or,or_true,or_self,decide_true,decide_false,hR]
     · cases p3:decide (l=[])
       · simp (maxSteps:=2000000) only[↓awA,awB,evA,envE,ofV,putE,listH,setRow,spl,oneP,guardB,frzA,mapO,allSc,closeA,shiftA,shiftR,flatA,flat0,scA,Row.len,fillW,rep,chunks,closed1,Value.oneCell',Nat.reduceAdd,reduceIte,reduceCtorEq,Nat.reduceLT,Nat.reduceLeDiff,Nat.reduceEqDiff,Nat.reduceSub,Nat.reduceMul,frz1,frzR,eq_self,and_self,tys,  q1,q3,q4,da,p1,dg,p2,p3,ek,Int.reduceBEq,true_or,or_true,or_self,decide_true,decide_false,hR]
       · simp (maxSteps:=2000000) only[↓awA,awB,evA,envE,ofV,putE,listH,setRow,spl,oneP,guardB,frzA,mapO,allSc,closeA,shiftA,shiftR,flatA,flat0,scA,Row.len,fillW,rep,chunks,closed1,Value.oneCell',Nat.reduceAdd,reduceIte,reduceCtorEq,Nat.reduceLT,Nat.reduceLeDiff,Nat.reduceEqDiff,Nat.reduceSub,Nat.reduceMul,frz1,frzR,eq_self,and_self,tys,  q1,q3,q4,da,p1,dg,p2,p3,spK_place,ek,Int.reduceBEq,true_or,or_true,or_self,decide_true,decide_false,hR]
 · have ek:((12:Nat):Int)=12:=rfl
   cases p1:decide (n=[])
   · simp (maxSteps:=2000000) only[↓awA,awB,evA,envE,ofV,putE,listH,setRow,spl,oneP,guardB,frzA,mapO,allSc,closeA,shiftA,shiftR,flatA,flat0,scA,Row.len,fillW,rep,chunks,closed1,Value.oneCell',Nat.reduceAdd,reduceIte,reduceCtorEq,Nat.reduceLT,Nat.reduceLeDiff,Nat.reduceEqDiff,Nat.reduceSub,Nat.reduceMul,frz1,frzR,eq_self,and_self,tys,  q1,q3,q4,da,p1,ek,Int.reduceBEq,true_or,or_true,or_self,decide_true,decide_false,hR]
   · cases p2:(g==0)
     · simp (maxSteps:=2000000) only[↓awA,awB,evA,envE,ofV,putE,listH,setRow,spl,oneP,guardB,frzA,mapO,allSc,closeA,shiftA,shiftR,flatA,flat0,scA,Row.len,fillW,rep,chunks,closed1,Value.oneCell',Nat.reduceAdd,reduceIte,reduceCtorEq,Nat.reduceLT,Nat.reduceLeDiff,Nat.reduceEqDiff,Nat.reduceSub,Nat.reduceMul,frz1,frzR,eq_self,and_self,tys,  q1,q3,q4,da,p1,dg,p2,ek,Int.reduceBEq,true_or,or_true,or_self,decide_true,decide_false,hR]
     · cases p4:(a==0)
       · simp (maxSteps:=2000000) only[↓awA,awB,evA,envE,ofV,putE,listH,setRow,spl,oneP,guardB,frzA,mapO,allSc,closeA,shiftA,shiftR,flatA,flat0,scA,Row.len,fillW,rep,chunks,closed1,Value.oneCell',Nat.reduceAdd,reduceIte,reduceCtorEq,Nat.reduceLT,Nat.reduceLeDiff,Nat.reduceEqDiff,Nat.reduceSub,Nat.reduceMul,frz1,frzR,eq_self,and_self,tys,  q1,q3,q4,da,p1,dg,p2,p4,ek,Int.reduceBEq,true_or,or_true,or_self,decide_true,decide_false,hR]
       · simp (maxSteps:=2000000) only[↓awA,awB,evA,envE,ofV,putE,listH,setRow,spl,oneP,guardB,frzA,mapO,allSc,closeA,shiftA,shiftR,flatA,flat0,scA,Row.len,fillW,rep,chunks,closed1,Value.oneCell',Nat.reduceAdd,reduceIte,reduceCtorEq,Nat.reduceLT,Nat.reduceLeDiff,Nat.reduceEqDiff,Nat.reduceSub,Nat.reduceMul,frz1,frzR,eq_self,and_self,tys,  q1,q3,q4,da,p1,dg,p2,p4,spK_rests,ek,Int.reduceBEq,true_or,or_true,or_self,decide_true,decide_false,hR]
 · have ek:((13:Nat):Int)=13:=rfl
   cases p1:decide (n=[])
   · simp (maxSteps:=2000000) only[↓awA,awB,evA,envE,ofV,putE,listH,setRow,spl,oneP,guardB,frzA,mapO,allSc,closeA,shiftA,shiftR,flatA,flat0,scA,Row.len,fillW,rep,chunks,closed1,Value.oneCell',Nat.reduceAdd,reduceIte,reduceCtorEq,Nat.reduceLT,Nat.reduceLeDiff,Nat.reduceEqDiff,Nat.reduceSub,Nat.reduceMul,frz1,frzR,eq_self,and_self,tys,  q1,q3,q4,da,p1,ek,Int.reduceBEq,true_or,or_true,or_self,decide_true,decide_false,hR]
   · cases p2:(g==0)
     · simp (maxSteps:=2000000) only[↓awA,awB,evA,envE,ofV,putE,listH,setRow,spl,oneP,guardB,frzA,mapO,allSc,closeA,shiftA,shiftR,flatA,flat0,scA,Row.len,fillW,rep,chunks,closed1,Value.oneCell',Nat.reduceAdd,reduceIte,reduceCtorEq,Nat.reduceLT,Nat.reduceLeDiff,Nat.reduceEqDiff,Nat.reduceSub,Nat.reduceMul,frz1,frzR,eq_self,and_self,tys,  q1,q3,q4,da,p1,dg,p2,ek,Int.reduceBEq,true_or,or_true,or_self,decide_true,decide_false,hR]
     · cases p3:decide (l=[])
       · simp (maxSteps:=2000000) only[↓awA,awB,evA,envE,ofV,putE,listH,setRow,spl,oneP,guardB,frzA,mapO,allSc,closeA,shiftA,shiftR,flatA,flat0,scA,Row.len,fillW,rep,chunks,closed1,Value.oneCell',Nat.reduceAdd,reduceIte,reduceCtorEq,Nat.reduceLT,Nat.reduceLeDiff,Nat.reduceEqDiff,Nat.reduceSub,Nat.reduceMul,frz1,frzR,eq_self,and_self,tys,  q1,q3,q4,da,p1,dg,p2,p3,ek,Int.reduceBEq,true_or,or_true,or_self,decide_true,decide_false,hR]
       · cases p4:decide (a≥1)
         · have p5:decide (0<a)=false:=by have:=of_decide_eq_false p4;exact decide_eq_false (by omega)
           simp (maxSteps:=2000000) only[↓awA,awB,evA,envE,ofV,putE,listH,setRow,spl,oneP,guardB,frzA,mapO,allSc,closeA,shiftA,shiftR,flatA,flat0,scA,Row.len,fillW,rep,chunks,closed1,Value.oneCell',Nat.reduceAdd,reduceIte,reduceCtorEq,Nat.reduceLT,Nat.reduceLeDiff,Nat.reduceEqDiff,Nat.reduceSub,Nat.reduceMul,frz1,frzR,eq_self,and_self,tys,  q1,q3,q4,da,p1,dg,p2,p3,p4,p5,ek,Int.reduceBEq,true_or,or_true,or_self,decide_true,decide_false,hR]
         · have p5:decide (0<a)=true:=by have:=of_decide_eq_true p4;exact decide_eq_true (by omega)
           simp (maxSteps:=2000000) only[↓awA,awB,evA,envE,ofV,putE,listH,setRow,spl,oneP,guardB,frzA,mapO,allSc,closeA,shiftA,shiftR,flatA,flat0,scA,Row.len,fillW,rep,chunks,closed1,Value.oneCell',Nat.reduceAdd,reduceIte,reduceCtorEq,Nat.reduceLT,Nat.reduceLeDiff,Nat.reduceEqDiff,Nat.reduceSub,Nat.reduceMul,frz1,frzR,eq_self,and_self,tys,  q1,q3,q4,da,p1,dg,p2,p3,p4,p5,ek,Int.reduceBEq,true_or,or_true,or_self,decide_true,decide_false,hR]
 · obtain⟨n3,n4,n5,n7,n6,n8,n9,n10,n11,n12,n13⟩:=ho
   have c3:(((o:Nat):Int)==3)=false:=by rw[beq_eq_false_iff_ne];omega
   have c4:(((o:Nat):Int)==4)=false:=by rw[beq_eq_false_iff_ne];omega
   have c5:(((o:Nat):Int)==5)=false:=by rw[beq_eq_false_iff_ne];omega
   have c7:(((o:Nat):Int)==7)=false:=by rw[beq_eq_false_iff_ne];omega
   have c6:(((o:Nat):Int)==6)=false:=by rw[beq_eq_false_iff_ne];omega
   have c8:(((o:Nat):Int)==8)=false:=by rw[beq_eq_false_iff_ne];omega
   have c9:(((o:Nat):Int)==9)=false:=by rw[beq_eq_false_iff_ne];omega
   have c10:(((o:Nat):Int)==10)=false:=by rw[beq_eq_false_iff_ne];omega
   have c11:(((o:Nat):Int)==11)=false:=by rw[beq_eq_false_iff_ne];omega
   have c12:(((o:Nat):Int)==12)=false:=by rw[beq_eq_false_iff_ne];omega
   have c13:(((o:Nat):Int)==13)=false:=by rw[beq_eq_false_iff_ne];omega
   rw[if_neg n8,if_neg (by omega),if_neg n6,if_neg n9,if_neg (by omega),if_neg n12,if_neg n13,Bool.and_false]
   cases p1:decide (n=[])
   · simp (maxSteps:=2000000) only[↓awA,awB,evA,envE,ofV,putE,listH,setRow,spl,oneP,guardB,frzA,mapO,allSc,closeA,shiftA,shiftR,flatA,flat0,scA,Row.len,fillW,rep,chunks,closed1,Value.oneCell',Nat.reduceAdd,reduceIte,reduceCtorEq,Nat.reduceLT,Nat.reduceLeDiff,Nat.reduceEqDiff,Nat.reduceSub,Nat.reduceMul,frz1,frzR,eq_self,and_self,tys,  q1,q3,q4,da,p1,c3,c4,c5,c7,c6,c8,c9,c10,c11,c12,c13,Int.reduceBEq,true_or,or_true,or_self,decide_true,decide_false,hR]
   · simp (maxSteps:=2000000) only[↓awA,awB,evA,envE,ofV,putE,listH,setRow,spl,oneP,guardB,frzA,mapO,allSc,closeA,shiftA,shiftR,flatA,flat0,scA,Row.len,fillW,rep,chunks,closed1,Value.oneCell',Nat.reduceAdd,reduceIte,reduceCtorEq,Nat.reduceLT,Nat.reduceLeDiff,Nat.reduceEqDiff,Nat.reduceSub,Nat.reduceMul,frz1,frzR,eq_self,and_self,tys,  q1,q3,q4,da,p1,c3,c4,c5,c7,c6,c8,c9,c10,c11,c12,c13,Int.reduceBEq,true_or,or_true,or_self,decide_true,decide_false,hR]
end Go.Proofs.YtpjodoipceddpaaGreatDoor.Aw
