/- Traces: whether a record may be, to the program, walked abstractly. -/
import Derived.Test.YtpjodoipceddpaaGreatDoorRecD
import Derived.Test.YtpjodoipceddpaaGreatDoorRecJ
namespace Go.Proofs.YtpjodoipceddpaaGreatDoor.Aw
open Go.RowKit Go.Lib Rc
set_option maxHeartbeats 8000000
set_option maxRecDepth 100000
noncomputable def spT :Spec:=spP.tell 51 (byE eS (fun s=>s.size≤1000000000) (fun s=>.sc (.int .u8 (isM s.data.toList:Nat))))
theorem spT_place {n:Int}:spT.call 28 [.sc (.int .i64 n)]=some (True,.sc (.bool (place n)),[]):=by
 unfold spT
 rw[tell_ne (by rfl)]
 exact spP_place
theorem spT_is {t:T}:spT.call 51 [.sc (.string (bt t))]=some ((bt t).size≤1000000000,.sc (.int .u8 (isM t:Nat)),[]):=by
 unfold spT
 rw[tell_same]
 have:=byE_eq (pre:=fun s:ByteArray=>s.size≤1000000000) (r:=fun s=>AV.sc (.int .u8 (isM s.data.toList:Nat))) (fun _ _=>eS_inj) (bt t)
 rw[list_bt] at this
 exact this
theorem spT_ok (w:World) (hst:TrSt w):SpecOk Tryz.prog spT w (fun _=>False):=
 tell_ok (spP_ok w) (enters_of' Tryz.func51 (by kernel_rfl)) (byE_ok fun a h w' hf=>is_con a h w' (hst.fr hf))
theorem is2_nmM (t:T):(((isM t:Nat):Int)==2)=nmB t:=by
 rw[←isM_nm,Bool.eq_iff_iff,beq_iff_eq,beq_iff_eq]
 omega
def mayE (r:RecM):Bool:=decide (r.list.length=1) && (if r.list.getD 0 0=2 then decide (r.at_=0) && nmB r.name else(decide (r.list.getD 0 0=1)||decide (r.list.getD 0 0=3)) && place r.at_ && decide (r.name=[]) && decide (r.arg=0))
theorem taken_con (r:RecM) (hn:r.name.length≤1000000000) (w:World) (hst:TrSt w):ConAt Tryz.prog w 27 (eR r) (.sc (.bool (mayE r))) []:=by
 obtain⟨o,a,n,g,l⟩:=r
 unfold eR cR
 simp only at hn
 refine con_of_aw (sp:=spT) (Φ:=TrSt) [] (fun w h=>spT_ok w h) (by kernel_rfl) Tryz.func27 rfl ?_ w hst
 intro hLen
 simp only[Tryz.ntmps27,List.length_cons,List.length_nil,Nat.reduceAdd,Nat.reduceSub,List.replicate_succ,List.replicate_zero,List.cons_append,List.nil_append]
 have hsz:(bt n).size≤1000000000:=hn
 have q1:=nil_dec n
 have q4:=len1_dec l
 have hR:=Tryz.results27
 unfold mayE
 simp only
 have hz2:(0:Int)≤0:=Int.le_refl 0
 have hz:Int.toNat 0=0:=rfl
 have dg:decide (g=0)=(g==0):=rfl
 have da:decide (a=0)=(a==0):=rfl
 have hne:((l.length:Int) !=1)= !decide (l.length=1):=by rw[←q4];rfl
 cases p5:decide (l.length=1)
 · simp (maxSteps:=2000000) only[↓awA,awB,evA,envE,ofV,putE,listH,setRow,spl,oneP,guardB,frzA,mapO,allSc,closeA,shiftA,shiftR,flatA,flat0,scA,Row.len,fillW,rep,chunks,closed1,Value.oneCell',Nat.reduceAdd,reduceIte,reduceCtorEq,Nat.reduceLT,Nat.reduceLeDiff,Nat.reduceEqDiff,Nat.reduceSub,Nat.reduceMul,frz1,frzR,eq_self,and_self,tys,  hne,p5,hR]
 · obtain⟨k,hk⟩:=List.length_eq_one_iff.1 (of_decide_eq_true p5)
   have e0:at_ (List.map eI l) 0=eI k:=by rw[hk];rfl
   have e1:l.getD 0 0=k:=by rw[hk];rfl
   have h1:(0:Int)<l.length:=by rw[hk];simp
   rw[e1]
   have dk1:decide (k=1)=(k==1):=rfl
   have dk3:decide (k=3)=(k==3):=rfl
   cases p6:(k==2)
   · have h6:¬k=2:=beq_eq_false_iff_ne.1 p6
     rw[if_neg h6]
     cases p7:(k==1)
     · cases p8:(k==3)
       · simp (maxSteps:=2000000) only[↓awA,awB,evA,envE,ofV,putE,listH,setRow,spl,oneP,guardB,frzA,mapO,allSc,closeA,shiftA,shiftR,flatA,flat0,scA,Row.len,fillW,rep,chunks,closed1,Value.oneCell',Nat.reduceAdd,reduceIte,reduceCtorEq,Nat.reduceLT,Nat.reduceLeDiff,Nat.reduceEqDiff,Nat.reduceSub,Nat.reduceMul,frz1,frzR,eq_self,and_self,tys,  hne,p5,hz,hz2,e0,eI,h1,p6,p7,p8,dk1,dk3,hR]
       · cases p4:place a
         · simp (maxSteps:=2000000) only[↓awA,awB,evA,envE,ofV,putE,listH,setRow,spl,oneP,guardB,frzA,mapO,allSc,closeA,shiftA,shiftR,flatA,flat0,scA,Row.len,fillW,rep,chunks,closed1,Value.oneCell',Nat.reduceAdd,reduceIte,reduceCtorEq,Nat.reduceLT,Nat.reduceLeDiff,Nat.reduceEqDiff,Nat.reduceSub,Nat.reduceMul,frz1,frzR,eq_self,and_self,tys,  hne,p5,hz,hz2,e0,eI,h1,p6,p7,p8,dk1,dk3,spT_place,p4,hR]
         · cases p1:decide (n=[])
           · simp (maxSteps:=2000000) only[↓awA,awB,evA,envE,ofV,putE,listH,setRow,spl,oneP,guardB,frzA,mapO,allSc,closeA,shiftA,shiftR,flatA,flat0,scA,Row.len,fillW,rep,chunks,closed1,Value.oneCell',Nat.reduceAdd,reduceIte,reduceCtorEq,Nat.reduceLT,Nat.reduceLeDiff,Nat.reduceEqDiff,Nat.reduceSub,Nat.reduceMul,frz1,frzR,eq_self,and_self,tys,  hne,p5,hz,hz2,e0,eI,h1,p6,p7,p8,dk1,dk3,spT_place,p4,q1,p1,hR]
           · simp (maxSteps:=2000000) only[↓awA,awB,evA,envE,ofV,putE,listH,setRow,spl,oneP,guardB,frzA,mapO,allSc,closeA,shiftA,shiftR,flatA,flat0,scA,Row.len,fillW,rep,chunks,closed1,Value.oneCell',Nat.reduceAdd,reduceIte,reduceCtorEq,Nat.reduceLT,Nat.reduceLeDiff,Nat.reduceEqDiff,Nat.reduceSub,Nat.reduceMul,frz1,frzR,eq_self,and_self,tys,  hne,p5,hz,hz2,e0,eI,h1,p6,p7,p8,dk1,dk3,spT_place,p4,q1,p1,dg,hR]
     · cases p4:place a
       · simp (maxSteps:=2000000) only[↓awA,awB,evA,envE,ofV,putE,listH,setRow,spl,oneP,guardB,frzA,mapO,allSc,closeA,shiftA,shiftR,flatA,flat0,scA,Row.len,fillW,rep,chunks,closed1,Value.oneCell',Nat.reduceAdd,reduceIte,reduceCtorEq,Nat.reduceLT,Nat.reduceLeDiff,Nat.reduceEqDiff,Nat.reduceSub,Nat.reduceMul,frz1,frzR,eq_self,and_self,tys,  hne,p5,hz,hz2,e0,eI,h1,p6,p7,dk1,dk3,spT_place,p4,hR]
       · cases p1:decide (n=[])
         · simp (maxSteps:=2000000) only[↓awA,awB,evA,envE,ofV,putE,listH,setRow,spl,oneP,guardB,frzA,mapO,allSc,closeA,shiftA,shiftR,flatA,flat0,scA,Row.len,fillW,rep,chunks,closed1,Value.oneCell',Nat.reduceAdd,reduceIte,reduceCtorEq,Nat.reduceLT,Nat.reduceLeDiff,Nat.reduceEqDiff,Nat.reduceSub,Nat.reduceMul,frz1,frzR,eq_self,and_self,tys,  hne,p5,hz,hz2,e0,eI,h1,p6,p7,dk1,dk3,spT_place,p4,q1,p1,hR]
         · simp (maxSteps:=2000000) only[↓awA,awB,evA,envE,ofV,putE,listH,setRow,spl,oneP,guardB,frzA,mapO,allSc,closeA,shiftA,shiftR,flatA,flat0,scA,Row.len,fillW,rep,chunks,closed1,Value.oneCell',Nat.reduceAdd,reduceIte,reduceCtorEq,Nat.reduceLT,Nat.reduceLeDiff,Nat.reduceEqDiff,Nat.reduceSub,Nat.reduceMul,frz1,frzR,eq_self,and_self,tys,  hne,p5,hz,hz2,e0,eI,h1,p6,p7,dk1,dk3,spT_place,p4,q1,p1,dg,hR]
   · have h6:k=2:=beq_iff_eq.1 p6
     rw[if_pos h6]
     have hi:=is2_nmM n
     have p7:(k==1)=false:=by rw[h6];rfl
     have p8:(k==3)=false:=by rw[h6];rfl
     cases p4:(a==0)
     · simp (maxSteps:=2000000) only[↓awA,awB,evA,envE,ofV,putE,listH,setRow,spl,oneP,guardB,frzA,mapO,allSc,closeA,shiftA,shiftR,flatA,flat0,scA,Row.len,fillW,rep,chunks,closed1,Value.oneCell',Nat.reduceAdd,reduceIte,reduceCtorEq,Nat.reduceLT,Nat.reduceLeDiff,Nat.reduceEqDiff,Nat.reduceSub,Nat.reduceMul,frz1,frzR,eq_self,and_self,tys,  hne,p5,hz,hz2,e0,eI,h1,p6,p7,p8,da,p4,hR]
     · simp (maxSteps:=2000000) only[↓awA,awB,evA,envE,ofV,putE,listH,setRow,spl,oneP,guardB,frzA,mapO,allSc,closeA,shiftA,shiftR,flatA,flat0,scA,Row.len,fillW,rep,chunks,closed1,Value.oneCell',Nat.reduceAdd,reduceIte,reduceCtorEq,Nat.reduceLT,Nat.reduceLeDiff,Nat.reduceEqDiff,Nat.reduceSub,Nat.reduceMul,frz1,frzR,eq_self,and_self,tys,  hne,p5,hz,hz2,e0,eI,h1,p6,p7,p8,da,p4,spT_is,hsz,hi,hR]
noncomputable def spU :Spec:=((spP.tell 29 (byE eL (fun _=>True) (fun l=>.sc (.bool (rising l))))).tell 30 (byE eL (fun _=>True) (fun l=>.sc (.bool (rests l))))).tell
 27 (byE eR (fun r=>r.name.length≤1000000000) (fun r=>.sc (.bool (mayE r))))
theorem spU_place {n:Int}:spU.call 28 [.sc (.int .i64 n)]=some (True,.sc (.bool (place n)),[]):=by
 unfold spU
 rw[tell_ne (by rfl),tell_ne (by rfl),tell_ne (by rfl)]
 exact spP_place
theorem spU_rising {l:List Int}:spU.call 29 [.ro (l.map eI)]=some (True,.sc (.bool (rising l)),[]):=by
 unfold spU
 rw[tell_ne (by rfl),tell_ne (by rfl),tell_same]
 exact byE_eq eL_inj l
theorem spU_rests {l:List Int}:spU.call 30 [.ro (l.map eI)]=some (True,.sc (.bool (rests l)),[]):=by
 unfold spU
 rw[tell_ne (by rfl),tell_same]
 exact byE_eq eL_inj l
theorem spU_taken {r:RecM}:spU.call 27 [.agg [.sc (.int .u8 (r.op:Int)),.sc (.int .i64 r.at_),.sc (.string (bt r.name)),.sc (.int .i64 r.arg),.ro (r.list.map eI)]]=some (r.name.length≤1000000000,.sc (.bool (mayE r)),[]):=by
 unfold spU
 rw[tell_same]
 exact byE_eq eR_inj r
theorem spU_ok (w:World) (hst:TrSt w):SpecOk Tryz.prog spU w (fun _=>False):=
 tell_ok (tell_ok (tell_ok (spP_ok w) (enters_of' Tryz.func29 (by kernel_rfl)) (byE_ok fun a _ w' _=>rising_con a w')) (enters_of' Tryz.func30 (by kernel_rfl)) (byE_ok fun a _ w' _=>rested_con a w'))
  (enters_of' Tryz.func27 (by kernel_rfl)) (byE_ok fun a h w' hf=>taken_con a h w' (hst.fr hf))
theorem may_con (r:RecM) (hn:r.name.length≤1000000000) (w:World) (hst:TrSt w):ConAt Tryz.prog w 12 (eR r) (.sc (.bool (mayB nmB r))) []:=by
 have hT:= @spU_taken r
 by_cases h8:r.op=8
 · have hm:mayB nmB r=mayE r:=by
    unfold mayB mayE
    rw[if_pos h8]
   rw[hm]
   unfold eR cR
   refine con_of_aw (sp:=spU) (Φ:=TrSt) [] (fun w h=>spU_ok w h) (by kernel_rfl) Tryz.func12 rfl ?_ w hst
   intro hLen
   simp only[Tryz.ntmps12,List.length_cons,List.length_nil,Nat.reduceAdd,Nat.reduceSub,List.replicate_succ,List.replicate_zero,List.cons_append,List.nil_append]
   have c8:((r.op:Int)==8)=true:=by rw[h8];rfl
   simp (maxSteps:=2000000) only[↓awA,awB,evA,envE,ofV,putE,listH,setRow,spl,oneP,guardB,frzA,mapO,allSc,closeA,shiftA,shiftR,flatA,flat0,scA,Row.len,fillW,rep,chunks,closed1,Value.oneCell',Nat.reduceAdd,reduceIte,reduceCtorEq,Nat.reduceLT,Nat.reduceLeDiff,Nat.reduceEqDiff,Nat.reduceSub,Nat.reduceMul,frz1,frzR,eq_self,and_self,tys,  c8,hT,hn,Tryz.results12]
 obtain⟨o,a,n,g,l⟩:=r
 unfold eR cR
 simp only at hn h8
 refine con_of_aw (sp:=spU) (Φ:=TrSt) [] (fun w h=>spU_ok w h) (by kernel_rfl) Tryz.func12 rfl ?_ w hst
 intro hLen
 simp only[Tryz.ntmps12,List.length_cons,List.length_nil,Nat.reduceAdd,Nat.reduceSub,List.replicate_succ,List.replicate_zero,List.cons_append,List.nil_append]
 have q1:=nil_dec n
 have q3:=len0_dec l
 have q4:=len1_dec l
 have hR:=Tryz.results12
 have c8:((o:Int)==8)=false:=by rw[beq_eq_false_iff_ne];omega
 unfold mayB
 simp only
 rw[if_neg h8]
 have dg:decide (g=0)=(g==0):=rfl
 have ng:(g !=0)= !(g==0):=rfl
 have da:decide (a=0)=(a==0):=rfl
 cases p1:decide (n=[])
 · simp (maxSteps:=2000000) only[↓awA,awB,evA,envE,ofV,putE,listH,setRow,spl,oneP,guardB,frzA,mapO,allSc,closeA,shiftA,shiftR,flatA,flat0,scA,Row.len,fillW,rep,chunks,closed1,Value.oneCell',Nat.reduceAdd,reduceIte,reduceCtorEq,Nat.reduceLT,Nat.reduceLeDiff,Nat.reduceEqDiff,Nat.reduceSub,Nat.reduceMul,frz1,frzR,eq_self,and_self,tys,  c8,q1,p1,hR]
 cases p2:(g==0)
 · simp (maxSteps:=2000000) only[↓awA,awB,evA,envE,ofV,putE,listH,setRow,spl,oneP,guardB,frzA,mapO,allSc,closeA,shiftA,shiftR,flatA,flat0,scA,Row.len,fillW,rep,chunks,closed1,Value.oneCell',Nat.reduceAdd,reduceIte,reduceCtorEq,Nat.reduceLT,Nat.reduceLeDiff,Nat.reduceEqDiff,Nat.reduceSub,Nat.reduceMul,frz1,frzR,eq_self,and_self,tys,  c8,q1,p1,dg,ng,p2,hR]
 have hop:o=3∨o=4∨o=5∨o=7∨o=6∨o=9∨o=10∨o=11∨o=12∨o=13∨(o≠3∧o≠4∧o≠5∧o≠7∧o≠6∧o≠9∧o≠10∧o≠11∧o≠12∧o≠13):=by omega
 rcases hop with rfl|rfl|rfl|rfl|rfl|rfl|rfl|rfl|rfl|rfl|ho
 · have ek:((3:Nat):Int)=3:=rfl
   cases p4:place a
   · simp (maxSteps:=2000000) only[↓awA,awB,evA,envE,ofV,putE,listH,setRow,spl,oneP,guardB,frzA,mapO,allSc,closeA,shiftA,shiftR,flatA,flat0,scA,Row.len,fillW,rep,chunks,closed1,Value.oneCell',Nat.reduceAdd,reduceIte,reduceCtorEq,Nat.reduceLT,Nat.reduceLeDiff,Nat.reduceEqDiff,Nat.reduceSub,Nat.reduceMul,frz1,frzR,eq_self,and_self,tys,  c8,q1,p1,dg,ng,p2,da,q3,q4,spU_place,p4,ek,Int.reduceBEq,true_or,or_true,or_self,decide_true,decide_false,hR]
   · simp (maxSteps:=2000000) only[↓awA,awB,evA,envE,ofV,putE,listH,setRow,spl,oneP,guardB,frzA,mapO,allSc,closeA,shiftA,shiftR,flatA,flat0,scA,Row.len,fillW,rep,chunks,closed1,Value.oneCell',Nat.reduceAdd,reduceIte,reduceCtorEq,Nat.reduceLT,Nat.reduceLeDiff,Nat.reduceEqDiff,Nat.reduceSub,Nat.reduceMul,frz1,frzR,eq_self,and_self,tys,  c8,q1,p1,dg,ng,p2,da,q3,q4,spU_place,p4,ek,Int.reduceBEq,true_or,or_true,or_self,decide_true,decide_false,hR]
 · have ek:((4:Nat):Int)=4:=rfl
   cases p4:place a
   · simp (maxSteps:=2000000) only[↓awA,awB,evA,envE,ofV,putE,listH,setRow,spl,oneP,guardB,frzA,mapO,allSc,closeA,shiftA,shiftR,flatA,flat0,scA,Row.len,fillW,rep,chunks,closed1,Value.oneCell',Nat.reduceAdd,reduceIte,reduceCtorEq,Nat.reduceLT,Nat.reduceLeDiff,Nat.reduceEqDiff,Nat.reduceSub,Nat.reduceMul,frz1,frzR,eq_self,and_self,tys,  c8,q1,p1,dg,ng,p2,da,q3,q4,spU_place,p4,ek,Int.reduceBEq,true_or,or_true,or_self,decide_true,decide_false,hR]
   · simp (maxSteps:=2000000) only[↓awA,awB,evA,envE,ofV,putE,listH,setRow,spl,oneP,guardB,frzA,mapO,allSc,closeA,shiftA,shiftR,flatA,flat0,scA,Row.len,fillW,rep,chunks,closed1,Value.oneCell',Nat.reduceAdd,reduceIte,reduceCtorEq,Nat.reduceLT,Nat.reduceLeDiff,Nat.reduceEqDiff,Nat.reduceSub,Nat.reduceMul,frz1,frzR,eq_self,and_self,tys,  c8,q1,p1,dg,ng,p2,da,q3,q4,spU_place,p4,ek,Int.reduceBEq,true_or,or_true,or_self,decide_true,decide_false,hR]
 · have ek:((5:Nat):Int)=5:=rfl
   cases p4:place a
   · simp (maxSteps:=2000000) only[↓awA,awB,evA,envE,ofV,putE,listH,setRow,spl,oneP,guardB,frzA,mapO,allSc,closeA,shiftA,shiftR,flatA,flat0,scA,Row.len,fillW,rep,chunks,closed1,Value.oneCell',Nat.reduceAdd,reduceIte,reduceCtorEq,Nat.reduceLT,Nat.reduceLeDiff,Nat.reduceEqDiff,Nat.reduceSub,Nat.reduceMul,frz1,frzR,eq_self,and_self,tys,  c8,q1,p1,dg,ng,p2,da,q3,q4,spU_place,p4,ek,Int.reduceBEq,true_or,or_true,or_self,decide_true,decide_false,hR]
   · simp (maxSteps:=2000000) only[↓awA,awB,evA,envE,ofV,putE,listH,setRow,spl,oneP,guardB,frzA,mapO,allSc,closeA,shiftA,shiftR,flatA,flat0,scA,Row.len,fillW,rep,chunks,closed1,Value.oneCell',Nat.reduceAdd,reduceIte,reduceCtorEq,Nat.reduceLT,Nat.reduceLeDiff,Nat.reduceEqDiff,Nat.reduceSub,Nat.reduceMul,frz1,frzR,eq_self,and_self,tys,  c8,q1,p1,dg,ng,p2,da,q3,q4,spU_place,p4,ek,Int.reduceBEq,true_or,or_true,or_self,decide_true,decide_false,hR]
 · have ek:((7:Nat):Int)=7:=rfl
   cases p4:place a
   · simp (maxSteps:=2000000) only[↓awA,awB,evA,envE,ofV,putE,listH,setRow,spl,oneP,guardB,frzA,mapO,allSc,closeA,shiftA,shiftR,flatA,flat0,scA,Row.len,fillW,rep,chunks,closed1,Value.oneCell',Nat.reduceAdd,reduceIte,reduceCtorEq,Nat.reduceLT,Nat.reduceLeDiff,Nat.reduceEqDiff,Nat.reduceSub,Nat.reduceMul,frz1,frzR,eq_self,and_self,tys,  c8,q1,p1,dg,ng,p2,da,q3,q4,spU_place,p4,ek,Int.reduceBEq,true_or,or_true,or_self,decide_true,decide_false,hR]
   · simp (maxSteps:=2000000) only[↓awA,awB,evA,envE,ofV,putE,listH,setRow,spl,oneP,guardB,frzA,mapO,allSc,closeA,shiftA,shiftR,flatA,flat0,scA,Row.len,fillW,rep,chunks,closed1,Value.oneCell',Nat.reduceAdd,reduceIte,reduceCtorEq,Nat.reduceLT,Nat.reduceLeDiff,Nat.reduceEqDiff,Nat.reduceSub,Nat.reduceMul,frz1,frzR,eq_self,and_self,tys,  c8,q1,p1,dg,ng,p2,da,q3,q4,spU_place,p4,ek,Int.reduceBEq,true_or,or_true,or_self,decide_true,decide_false,hR]
 · have ek:((6:Nat):Int)=6:=rfl
   cases p4:place a
   · simp (maxSteps:=2000000) only[↓awA,awB,evA,envE,ofV,putE,listH,setRow,spl,oneP,guardB,frzA,mapO,allSc,closeA,shiftA,shiftR,flatA,flat0,scA,Row.len,fillW,rep,chunks,closed1,Value.oneCell',Nat.reduceAdd,reduceIte,reduceCtorEq,Nat.reduceLT,Nat.reduceLeDiff,Nat.reduceEqDiff,Nat.reduceSub,Nat.reduceMul,frz1,frzR,eq_self,and_self,tys,  c8,q1,p1,dg,ng,p2,da,q3,q4,spU_place,p4,ek,Int.reduceBEq,true_or,or_true,or_self,decide_true,decide_false,hR]
   · cases p3:decide (l=[])
     · cases p5:decide (l.length=1)
       · simp (maxSteps:=2000000) only[↓awA,awB,evA,envE,ofV,putE,listH,setRow,spl,oneP,guardB,frzA,mapO,allSc,closeA,shiftA,shiftR,flatA,flat0,scA,Row.len,fillW,rep,chunks,closed1,Value.oneCell',Nat.reduceAdd,reduceIte,reduceCtorEq,Nat.reduceLT,Nat.reduceLeDiff,Nat.reduceEqDiff,Nat.reduceSub,Nat.reduceMul,frz1,frzR,eq_self,and_self,tys,  c8,q1,p1,dg,ng,p2,da,q3,q4,spU_place,p4,p3,p5,ek,Int.reduceBEq,true_or,or_true,or_self,decide_true,decide_false,hR]
       · obtain⟨x,hx⟩:=List.length_eq_one_iff.1 (of_decide_eq_true p5)
         have e1:place (l.getD 0 0)=rising l:=by rw[hx];unfold rising risAt allN;simp[allN]
         rw[e1]
         simp (maxSteps:=2000000) only[↓awA,awB,evA,envE,ofV,putE,listH,setRow,spl,oneP,guardB,frzA,mapO,allSc,closeA,shiftA,shiftR,flatA,flat0,scA,Row.len,fillW,rep,chunks,closed1,Value.oneCell',Nat.reduceAdd,reduceIte,reduceCtorEq,Nat.reduceLT,Nat.reduceLeDiff,Nat.reduceEqDiff,Nat.reduceSub,Nat.reduceMul,frz1,frzR,eq_self,and_self,tys,  c8,q1,p1,dg,ng,p2,da,q3,q4,spU_place,p4,p3,p5,spU_rising,ek,Int.reduceBEq,true_or,or_true,or_self,decide_true,decide_false,hR]
     · simp (maxSteps:=2000000) only[↓awA,awB,evA,envE,ofV,putE,listH,setRow,spl,oneP,guardB,frzA,mapO,allSc,closeA,shiftA,shiftR,flatA,flat0,scA,Row.len,fillW,rep,chunks,closed1,Value.oneCell',Nat.reduceAdd,reduceIte,reduceCtorEq,Nat.reduceLT,Nat.reduceLeDiff,Nat.reduceEqDiff,Nat.reduceSub,Nat.reduceMul,frz1,frzR,eq_self,and_self,tys,  c8,q1,p1,dg,ng,p2,da,q3,q4,spU_place,p4,p3,ek,Int.reduceBEq,true_or,or_true,or_self,decide_true,decide_false,hR]
 · have ek:((9:Nat):Int)=9:=rfl
   cases p4:(a==0)
   · simp (maxSteps:=2000000) only[↓awA,awB,evA,envE,ofV,putE,listH,setRow,spl,oneP,guardB,frzA,mapO,allSc,closeA,shiftA,shiftR,flatA,flat0,scA,Row.len,fillW,rep,chunks,closed1,Value.oneCell',Nat.reduceAdd,reduceIte,reduceCtorEq,Nat.reduceLT,Nat.reduceLeDiff,Nat.reduceEqDiff,Nat.reduceSub,Nat.reduceMul,frz1,frzR,eq_self,and_self,tys,  c8,q1,p1,dg,ng,p2,da,q3,q4,p4,ek,Int.reduceBEq,true_or,or_true,or_self,decide_true,decide_false,hR]
   · simp (maxSteps:=2000000) only[↓awA,awB,evA,envE,ofV,putE,listH,setRow,spl,oneP,guardB,frzA,mapO,allSc,closeA,shiftA,shiftR,flatA,flat0,scA,Row.len,fillW,rep,chunks,closed1,Value.oneCell',Nat.reduceAdd,reduceIte,reduceCtorEq,Nat.reduceLT,Nat.reduceLeDiff,Nat.reduceEqDiff,Nat.reduceSub,Nat.reduceMul,frz1,frzR,eq_self,and_self,tys,  c8,q1,p1,dg,ng,p2,da,q3,q4,p4,spU_rising,ek,Int.reduceBEq,true_or,or_true,or_self,decide_true,decide_false,hR]
 · have ek:((10:Nat):Int)=10:=rfl
   cases p4:(a==0)
   · simp (maxSteps:=2000000) only[↓awA,awB,evA,envE,ofV,putE,listH,setRow,spl,oneP,guardB,frzA,mapO,allSc,closeA,shiftA,shiftR,flatA,flat0,scA,Row.len,fillW,rep,chunks,closed1,Value.oneCell',Nat.reduceAdd,reduceIte,reduceCtorEq,Nat.reduceLT,Nat.reduceLeDiff,Nat.reduceEqDiff,Nat.reduceSub,Nat.reduceMul,frz1,frzR,eq_self,and_self,tys,  c8,q1,p1,dg,ng,p2,da,q3,q4,p4,ek,Int.reduceBEq,true_or,or_true,or_self,decide_true,decide_false,hR]
   · simp (maxSteps:=2000000) only[↓awA,awB,evA,envE,ofV,putE,listH,setRow,spl,oneP,guardB,frzA,mapO,allSc,closeA,shiftA,shiftR,flatA,flat0,scA,Row.len,fillW,rep,chunks,closed1,Value.oneCell',Nat.reduceAdd,reduceIte,reduceCtorEq,Nat.reduceLT,Nat.reduceLeDiff,Nat.reduceEqDiff,Nat.reduceSub,Nat.reduceMul,frz1,frzR,eq_self,and_self,tys,  c8,q1,p1,dg,ng,p2,da,q3,q4,p4,ek,Int.reduceBEq,true_or,or_true,or_self,decide_true,decide_false,hR]
 · have ek:((11:Nat):Int)=11:=rfl
   cases p4:(a==0)
   · simp (maxSteps:=2000000) only[↓awA,awB,evA,envE,ofV,putE,listH,setRow,spl,oneP,guardB,frzA,mapO,allSc,closeA,shiftA,shiftR,flatA,flat0,scA,Row.len,fillW,rep,chunks,closed1,Value.oneCell',Nat.reduceAdd,reduceIte,reduceCtorEq,Nat.reduceLT,Nat.reduceLeDiff,Nat.reduceEqDiff,Nat.reduceSub,Nat.reduceMul,frz1,frzR,eq_self,and_self,tys,  c8,q1,p1,dg,ng,p2,da,q3,q4,p4,ek,Int.reduceBEq,true_or,or_true,or_self,decide_true,decide_false,hR]
   · simp (maxSteps:=2000000) only[↓awA,awB,evA,envE,ofV,putE,listH,setRow,spl,oneP,guardB,frzA,mapO,allSc,closeA,shiftA,shiftR,flatA,flat0,scA,Row.len,fillW,rep,chunks,closed1,Value.oneCell',Nat.reduceAdd,reduceIte,reduceCtorEq,Nat.reduceLT,Nat.reduceLeDiff,Nat.reduceEqDiff,Nat.reduceSub,Nat.reduceMul,frz1,frzR,eq_self,and_self,tys,  c8,q1,p1,dg,ng,p2,da,q3,q4,p4,ek,Int.reduceBEq,true_or,or_true,or_self,decide_true,decide_false,hR]
 · have ek:((12:Nat):Int)=12:=rfl
   cases p4:(a==0)
   · simp (maxSteps:=2000000) only[↓awA,awB,evA,envE,ofV,putE,listH,setRow,spl,oneP,guardB,frzA,mapO,allSc,closeA,shiftA,shiftR,flatA,flat0,scA,Row.len,fillW,rep,chunks,closed1,Value.oneCell',Nat.reduceAdd,reduceIte,reduceCtorEq,Nat.reduceLT,Nat.reduceLeDiff,Nat.reduceEqDiff,Nat.reduceSub,Nat.reduceMul,frz1,frzR,eq_self,and_self,tys,  c8,q1,p1,dg,ng,p2,da,q3,q4,p4,ek,Int.reduceBEq,true_or,or_true,or_self,decide_true,decide_false,hR]
   · simp (maxSteps:=2000000) only[↓awA,awB,evA,envE,ofV,putE,listH,setRow,spl,oneP,guardB,frzA,mapO,allSc,closeA,shiftA,shiftR,flatA,flat0,scA,Row.len,fillW,rep,chunks,closed1,Value.oneCell',Nat.reduceAdd,reduceIte,reduceCtorEq,Nat.reduceLT,Nat.reduceLeDiff,Nat.reduceEqDiff,Nat.reduceSub,Nat.reduceMul,frz1,frzR,eq_self,and_self,tys,  c8,q1,p1,dg,ng,p2,da,q3,q4,p4,spU_rests,ek,Int.reduceBEq,true_or,or_true,or_self,decide_true,decide_false,hR]
 · have ek:((13:Nat):Int)=13:=rfl
   have d0:decide (0<a)=decide (a>0):=rfl
   cases p4:decide (a>0)
   · simp (maxSteps:=2000000) only[↓awA,awB,evA,envE,ofV,putE,listH,setRow,spl,oneP,guardB,frzA,mapO,allSc,closeA,shiftA,shiftR,flatA,flat0,scA,Row.len,fillW,rep,chunks,closed1,Value.oneCell',Nat.reduceAdd,reduceIte,reduceCtorEq,Nat.reduceLT,Nat.reduceLeDiff,Nat.reduceEqDiff,Nat.reduceSub,Nat.reduceMul,frz1,frzR,eq_self,and_self,tys,  c8,q1,p1,dg,ng,p2,da,q3,q4,d0,p4,ek,Int.reduceBEq,true_or,or_true,or_self,decide_true,decide_false,hR]
   · cases p5:decide (a≤999)
     · simp (maxSteps:=2000000) only[↓awA,awB,evA,envE,ofV,putE,listH,setRow,spl,oneP,guardB,frzA,mapO,allSc,closeA,shiftA,shiftR,flatA,flat0,scA,Row.len,fillW,rep,chunks,closed1,Value.oneCell',Nat.reduceAdd,reduceIte,reduceCtorEq,Nat.reduceLT,Nat.reduceLeDiff,Nat.reduceEqDiff,Nat.reduceSub,Nat.reduceMul,frz1,frzR,eq_self,and_self,tys,  c8,q1,p1,dg,ng,p2,da,q3,q4,d0,p4,p5,ek,Int.reduceBEq,true_or,or_true,or_self,decide_true,decide_false,hR]
     · simp (maxSteps:=2000000) only[↓awA,awB,evA,envE,ofV,putE,listH,setRow,spl,oneP,guardB,frzA,mapO,allSc,closeA,shiftA,shiftR,flatA,flat0,scA,Row.len,fillW,rep,chunks,closed1,Value.oneCell',Nat.reduceAdd,reduceIte,reduceCtorEq,Nat.reduceLT,Nat.reduceLeDiff,Nat.reduceEqDiff,Nat.reduceSub,Nat.reduceMul,frz1,frzR,eq_self,and_self,tys,  c8,q1,p1,dg,ng,p2,da,q3,q4,d0,p4,p5,ek,Int.reduceBEq,true_or,or_true,or_self,decide_true,decide_false,hR]
 · obtain⟨n3,n4,n5,n7,n6,n9,n10,n11,n12,n13⟩:=ho
   have c3:(((o:Nat):Int)==3)=false:=by rw[beq_eq_false_iff_ne];omega
   have c4:(((o:Nat):Int)==4)=false:=by rw[beq_eq_false_iff_ne];omega
   have c5:(((o:Nat):Int)==5)=false:=by rw[beq_eq_false_iff_ne];omega
   have c7:(((o:Nat):Int)==7)=false:=by rw[beq_eq_false_iff_ne];omega
   have c6:(((o:Nat):Int)==6)=false:=by rw[beq_eq_false_iff_ne];omega
   have c9:(((o:Nat):Int)==9)=false:=by rw[beq_eq_false_iff_ne];omega
   have c10:(((o:Nat):Int)==10)=false:=by rw[beq_eq_false_iff_ne];omega
   have c11:(((o:Nat):Int)==11)=false:=by rw[beq_eq_false_iff_ne];omega
   have c12:(((o:Nat):Int)==12)=false:=by rw[beq_eq_false_iff_ne];omega
   have c13:(((o:Nat):Int)==13)=false:=by rw[beq_eq_false_iff_ne];omega
   rw[if_neg (by omega),if_neg n6,if_neg n9,if_neg (by omega),if_neg n12,if_neg n13,Bool.and_false]
   simp (maxSteps:=2000000) only[↓awA,awB,evA,envE,ofV,putE,listH,setRow,spl,oneP,guardB,frzA,mapO,allSc,closeA,shiftA,shiftR,flatA,flat0,scA,Row.len,fillW,rep,chunks,closed1,Value.oneCell',Nat.reduceAdd,reduceIte,reduceCtorEq,Nat.reduceLT,Nat.reduceLeDiff,Nat.reduceEqDiff,Nat.reduceSub,Nat.reduceMul,frz1,frzR,eq_self,and_self,tys,  c8,q1,p1,dg,ng,p2,da,q3,q4,c3,c4,c5,c7,c6,c9,c10,c11,c12,c13,Int.reduceBEq,true_or,or_true,or_self,decide_true,decide_false,hR]
end Go.Proofs.YtpjodoipceddpaaGreatDoor.Aw
