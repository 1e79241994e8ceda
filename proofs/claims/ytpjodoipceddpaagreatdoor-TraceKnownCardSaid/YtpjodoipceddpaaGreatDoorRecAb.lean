/- Traces: whether a record may be, walked abstractly. -/
import Derived.Test.YtpjodoipceddpaaGreatDoorAwThr
import Derived.Test.YtpjodoipceddpaaGreatDoorRTy
import Derived.Test.YtpjodoipceddpaaGreatDoorRecI
import Derived.Lib.LaidTab
import Derived.Lib.ItoaMem
namespace Go.Proofs.YtpjodoipceddpaaGreatDoor.Aw
open Go.RowKit Go.Lib Rc
set_option maxHeartbeats 4000000
set_option maxRecDepth 100000
def eI (n:Int):List AV:=[.sc (.int .i64 n)]
def eS (s:ByteArray):List AV:=[.sc (.string s)]
theorem eI_inj {x y:Int} (h:eI x=eI y):x=y:=by unfold eI at h;simpa using h
theorem eS_inj {x y:ByteArray} (h:eS x=eS y):x=y:=by unfold eS at h;simpa using h
def eL (l:List Int):List AV:=[.ro (l.map eI)]
theorem eL_inj (x y:List Int) (h:eL x=eL y):x=y:=by
 unfold eL at h
 simp only[List.cons.injEq,AV.ro.injEq,and_true] at h
 exact(List.map_inj_right (fun a b hab=>eI_inj hab)).1 h
theorem len_ro {l:List Int} {x:AV} (h:lenOk 6 (.ro (l.map eI))):l.length≤9223372036854775807:=by
 have:=h.1
 rwa [List.length_map] at this
theorem place_con (n:Int) (w:World):ConAt Tryz.prog w 28 (eI n) (.sc (.bool (place n))) []:=by
 unfold place eI
 refine con_of_aw (sp:=spN) (Φ:=fun _=>True) [] (fun w _=>spN_ok w) (by kernel_rfl) Tryz.func28 rfl ?_ w trivial
 intro hLen
 simp only[Tryz.ntmps28,List.length_cons,List.length_nil,Nat.reduceAdd,Nat.reduceSub,List.replicate_succ,List.replicate_zero,List.cons_append,List.nil_append]
 cases h1:decide (n≥0)
 · have e:decide (0≤n)=false:=h1
   simp (maxSteps:=2000000) only[↓awA,awB,evA,envE,ofV,putE,listH,setRow,spl,oneP,guardB,frzA,mapO,allSc,closeA,shiftA,shiftR,flatA,flat0,scA,Row.len,fillW,rep,chunks,closed1,Value.oneCell',Nat.reduceAdd,reduceIte,reduceCtorEq,Nat.reduceLT,Nat.reduceLeDiff,Nat.reduceEqDiff,Nat.reduceSub,Nat.reduceMul,frz1,frzR,eq_self,and_self,tys,  h1,e,Tryz.results28]
 · have e:decide (0≤n)=true:=h1
   simp (maxSteps:=2000000) only[↓awA,awB,evA,envE,ofV,putE,listH,setRow,spl,oneP,guardB,frzA,mapO,allSc,closeA,shiftA,shiftR,flatA,flat0,scA,Row.len,fillW,rep,chunks,closed1,Value.oneCell',Nat.reduceAdd,reduceIte,reduceCtorEq,Nat.reduceLT,Nat.reduceLeDiff,Nat.reduceEqDiff,Nat.reduceSub,Nat.reduceMul,frz1,frzR,eq_self,and_self,tys,  h1,e,Tryz.results28]
noncomputable def spP :Spec:=spN.tell 28 (byE eI (fun _=>True) (fun n=>.sc (.bool (place n))))
theorem spP_place {n:Int}:spP.call 28 [.sc (.int .i64 n)]=some (True,.sc (.bool (place n)),[]):=by
 unfold spP
 rw[tell_same]
 exact byE_eq (fun _ _=>eI_inj) n
theorem spP_ok (w:World) {fp:Nat→Prop}:SpecOk Tryz.prog spP w fp:=
 tell_ok (spN_ok w) (enters_of' Tryz.func28 (by kernel_rfl)) (byE_ok fun a _ w _=>place_con a w)
theorem rising_con (l:List Int) (w:World):ConAt Tryz.prog w 29 (eL l) (.sc (.bool (rising l))) []:=by
 unfold eL
 refine con_of_aw (sp:=spP) (Φ:=fun _=>True) [] (fun w _=>spP_ok w) (by kernel_rfl) Tryz.func29 rfl ?_ w trivial
 intro hLen
 simp only[Tryz.ntmps29,List.length_cons,List.length_nil,Nat.reduceAdd,Nat.reduceSub,List.replicate_succ,List.replicate_zero,List.cons_append,List.nil_append]
 have hl:l.length≤9223372036854775807:=len_ro (x:=.dead) (hLen _ List.mem_cons_self)
 simp (maxSteps:=2000000) only[↓awA,awB,evA,envE,ofV,putE,listH,setRow,spl,oneP,guardB,frzA,mapO,allSc,closeA,shiftA,shiftR,flatA,flat0,scA,Row.len,fillW,rep,chunks,closed1,Value.oneCell',Nat.reduceAdd,reduceIte,reduceCtorEq,Nat.reduceLT,Nat.reduceLeDiff,Nat.reduceEqDiff,Nat.reduceSub,Nat.reduceMul,frz1,frzR,eq_self,and_self,tys,  Tryz.results29]
 refine aw_loop (fun i:Nat=>[.ro (l.map eI),.dead,.dead,.dead,.dead,.ro (l.map eI),.sc (.int .i64 (l.length:Int)),.sc (.int .i64 (i:Int))]++deads 24) (fun _=>[]) (fun i=>i≤l.length∧allN (risAt l) 0 l.length=allN (risAt l) i (l.length - i)) (fun i=>l.length - i) 0 ?_ ⟨Nat.zero_le _,rfl⟩ ?_
 · simp[Weak,weakL,weakR,weakV,nilV,nilR,okA,listH,deads,pinR,isVarB,pin_pins]
 rintro i ⟨hi,hA⟩
 simp only[deads,List.replicate_succ,List.replicate_zero,List.cons_append,List.nil_append]
 unfold rising
 by_cases hlt:i<l.length
 · obtain⟨x,hx⟩:∃x,l[i]? =some x:=⟨_,List.getElem?_eq_getElem hlt⟩
   have e2:at_ (l.map eI) i=eI x:=at_some hx
   have hw:=wr_lt hlt hl
   have hA2:allN (risAt l) 0 l.length=(risAt l i && allN (risAt l) (i+1) (l.length - (i+1))):=by rw[hA,show l.length - i=(l.length - (i+1))+1 by omega,allN]
   have hg:l.getD i 0=x:=by rw[List.getD_eq_getElem?_getD,hx];rfl
   have hat:risAt l i=(place x && (decide (i=0)||decide (l.getD (i - 1) 0<x))):=by unfold risAt;rw[hg]
   cases hp:place x
   · rw[hA2,hat,hp]
     simp (maxSteps:=2000000) only[↓awA,awB,evA,envE,ofV,putE,listH,setRow,spl,oneP,guardB,frzA,mapO,allSc,closeA,shiftA,shiftR,flatA,flat0,scA,Row.len,fillW,rep,chunks,closed1,Value.oneCell',Nat.reduceAdd,reduceIte,reduceCtorEq,Nat.reduceLT,Nat.reduceLeDiff,Nat.reduceEqDiff,Nat.reduceSub,Nat.reduceMul,frz1,frzR,eq_self,and_self,tys,  hlt,e2,eI,spP_place,hp,Tryz.results29]
   · cases h0:decide ((i:Int)>0)
     · have hz:i=0:=by have:=of_decide_eq_false h0;omega
       have hat:risAt l i=true:=by rw[hat,hp,decide_eq_true hz];rfl
       rw[hat,Bool.true_and] at hA2
       simp (maxSteps:=2000000) only[↓awA,awB,evA,envE,ofV,putE,listH,setRow,spl,oneP,guardB,frzA,mapO,allSc,closeA,shiftA,shiftR,flatA,flat0,scA,Row.len,fillW,rep,chunks,closed1,Value.oneCell',Nat.reduceAdd,reduceIte,reduceCtorEq,Nat.reduceLT,Nat.reduceLeDiff,Nat.reduceEqDiff,Nat.reduceSub,Nat.reduceMul,frz1,frzR,eq_self,and_self,tys,  hlt,e2,eI,spP_place,hp,h0]
       refine loopQ_next (i+1) ?_ ⟨hlt,hA2⟩ (by omega)
       simp[Weak,weakL,weakR,weakV,nilV,nilR,okA,listH,deads,pinR,isVarB,pin_pins,  hw]
     · have hz:¬i=0:=by have:=of_decide_eq_true h0;omega
       obtain⟨j,rfl⟩:∃j,i=j+1:=⟨i - 1,by omega⟩
       have hj:j<l.length:=by omega
       obtain⟨y,hy⟩:∃y,l[j]? =some y:=⟨_,List.getElem?_eq_getElem hj⟩
       have e3:at_ (l.map eI) j=eI y:=at_some hy
       have hw2:=wr_pred (i:=j) (by omega)
       have hg2:l.getD (j+1 - 1) 0=y:=by rw[Nat.add_sub_cancel,List.getD_eq_getElem?_getD,hy];rfl
       rw[hg2,hp,decide_eq_false hz,Bool.true_and,Bool.false_or] at hat
       cases hc:decide (y≥x)
       · have hc2:decide (y<x)=true:=by have:=of_decide_eq_false hc;exact decide_eq_true (by omega)
         rw[hat,hc2,Bool.true_and] at hA2
         simp (maxSteps:=2000000) only[↓awA,awB,evA,envE,ofV,putE,listH,setRow,spl,oneP,guardB,frzA,mapO,allSc,closeA,shiftA,shiftR,flatA,flat0,scA,Row.len,fillW,rep,chunks,closed1,Value.oneCell',Nat.reduceAdd,reduceIte,reduceCtorEq,Nat.reduceLT,Nat.reduceLeDiff,Nat.reduceEqDiff,Nat.reduceSub,Nat.reduceMul,frz1,frzR,eq_self,and_self,tys,  hlt,hj,e2,e3,eI,spP_place,hp,h0,hw2,hc]
         refine loopQ_next (j+1+1) ?_ ⟨hlt,hA2⟩ (by omega)
         have hw3:=IntWalk.i64_in ((j:Int)+1+1) (by omega)
         simp[Weak,weakL,weakR,weakV,nilV,nilR,okA,listH,deads,pinR,isVarB,pin_pins,  hw3]
       · have hc2:decide (y<x)=false:=by have:=of_decide_eq_true hc;exact decide_eq_false (by omega)
         rw[hA2,hat,hc2]
         simp (maxSteps:=2000000) only[↓awA,awB,evA,envE,ofV,putE,listH,setRow,spl,oneP,guardB,frzA,mapO,allSc,closeA,shiftA,shiftR,flatA,flat0,scA,Row.len,fillW,rep,chunks,closed1,Value.oneCell',Nat.reduceAdd,reduceIte,reduceCtorEq,Nat.reduceLT,Nat.reduceLeDiff,Nat.reduceEqDiff,Nat.reduceSub,Nat.reduceMul,frz1,frzR,eq_self,and_self,tys,  hlt,hj,e2,e3,eI,spP_place,hp,h0,hw2,hc,Tryz.results29]
 · rw[hA,show l.length - i=0 by omega,allN,Bool.true_and]
   have e:decide ((l.length:Int)>0)=decide (0<l.length):=decide_eq_decide.2 (by omega)
   simp (maxSteps:=2000000) only[↓awA,awB,evA,envE,ofV,putE,listH,setRow,spl,oneP,guardB,frzA,mapO,allSc,closeA,shiftA,shiftR,flatA,flat0,scA,Row.len,fillW,rep,chunks,closed1,Value.oneCell',Nat.reduceAdd,reduceIte,reduceCtorEq,Nat.reduceLT,Nat.reduceLeDiff,Nat.reduceEqDiff,Nat.reduceSub,Nat.reduceMul,frz1,frzR,eq_self,and_self,tys,  hlt,e,Tryz.results29]
end Go.Proofs.YtpjodoipceddpaaGreatDoor.Aw
namespace Go.Proofs.YtpjodoipceddpaaGreatDoor.Aw
open Go.RowKit Go.Lib Rc
set_option maxHeartbeats 4000000
set_option maxRecDepth 100000
theorem not_rest_con (n:Int) (w:World):ConAt Tryz.prog w 53 (eI n) (.sc (.bool (!restAt n))) []:=by
 unfold restAt eI
 refine con_of_aw (sp:=spN) (Φ:=fun _=>True) [] (fun w _=>spN_ok w) (by kernel_rfl) Tryz.func53 rfl ?_ w trivial
 intro hLen
 simp only[Tryz.ntmps53,List.length_cons,List.length_nil,Nat.reduceAdd,Nat.reduceSub,List.replicate_succ,List.replicate_zero,List.cons_append,List.nil_append]
 have e2:decide (n<512)= !decide (n≥512):=by rw[←decide_not];exact decide_eq_decide.2 (by omega)
 cases h1:decide (n< -1)
 · have e:decide (-1≤n)=true:=decide_eq_true (by have:=of_decide_eq_false h1;omega)
   simp (maxSteps:=2000000) only[↓awA,awB,evA,envE,ofV,putE,listH,setRow,spl,oneP,guardB,frzA,mapO,allSc,closeA,shiftA,shiftR,flatA,flat0,scA,Row.len,fillW,rep,chunks,closed1,Value.oneCell',Nat.reduceAdd,reduceIte,reduceCtorEq,Nat.reduceLT,Nat.reduceLeDiff,Nat.reduceEqDiff,Nat.reduceSub,Nat.reduceMul,frz1,frzR,eq_self,and_self,tys,  h1,e,e2,Bool.not_not,Tryz.results53]
 · have e:decide (-1≤n)=false:=decide_eq_false (by have:=of_decide_eq_true h1;omega)
   simp (maxSteps:=2000000) only[↓awA,awB,evA,envE,ofV,putE,listH,setRow,spl,oneP,guardB,frzA,mapO,allSc,closeA,shiftA,shiftR,flatA,flat0,scA,Row.len,fillW,rep,chunks,closed1,Value.oneCell',Nat.reduceAdd,reduceIte,reduceCtorEq,Nat.reduceLT,Nat.reduceLeDiff,Nat.reduceEqDiff,Nat.reduceSub,Nat.reduceMul,frz1,frzR,eq_self,and_self,tys,  h1,e,e2,Tryz.results53]
def idxI (p:Int→Bool):List Int→Nat→Int
 |[],_=> -1
 |x::l,i=>if p x then(i:Int) else idxI p l (i+1)
theorem idxI_any (p:Int→Bool):∀(l:List Int) (i:Nat),decide (idxI p l i≥0)=l.any p
 |[],i=>rfl
 |x::l,i=>by
  rw[idxI,List.any_cons]
  cases h:p x
  · rw[if_neg (by simp),idxI_any p l (i+1)];rfl
  · rw[if_pos rfl];exact decide_eq_true (by omega)
noncomputable def spR :Spec:=spN.tell 53 (byE eI (fun _=>True) (fun n=>.sc (.bool (!restAt n))))
theorem spR_at {n:Int}:spR.call 53 [.sc (.int .i64 n)]=some (True,.sc (.bool (!restAt n)),[]):=by
 unfold spR
 rw[tell_same]
 exact byE_eq (fun _ _=>eI_inj) n
theorem spR_ok (w:World) {fp:Nat→Prop}:SpecOk Tryz.prog spR w fp:=
 tell_ok (spN_ok w) (enters_of' Tryz.func53 (by kernel_rfl)) (byE_ok fun a _ w _=>not_rest_con a w)
def eLF (l:List Int):List AV:=[.ro (l.map eI),.sc (.func (.func 53) #[] #[])]
theorem eLF_inj (x y:List Int) (h:eLF x=eLF y):x=y:=by
 unfold eLF at h
 simp only[List.cons.injEq,AV.ro.injEq,and_true] at h
 exact(List.map_inj_right (fun a b hab=>eI_inj hab)).1 h
theorem indexI_con (l:List Int) (w:World):ConAt Tryz.prog w 67 (eLF l) (.sc (.int .i64 (idxI (fun n=> !restAt n) l 0))) []:=by
 unfold eLF
 refine con_of_aw (sp:=spR) (Φ:=fun _=>True) [] (fun w _=>spR_ok w) (by kernel_rfl) Tryz.func67 rfl ?_ w trivial
 intro hLen
 simp only[Tryz.ntmps67,List.length_cons,List.length_nil,Nat.reduceAdd,Nat.reduceSub,List.replicate_succ,List.replicate_zero,List.cons_append,List.nil_append]
 have hl:l.length≤9223372036854775807:=len_ro (x:=.dead) (hLen _ List.mem_cons_self)
 simp (maxSteps:=2000000) only[↓awA,awB,evA,envE,ofV,putE,listH,setRow,spl,oneP,guardB,frzA,mapO,allSc,closeA,shiftA,shiftR,flatA,flat0,scA,Row.len,fillW,rep,chunks,closed1,Value.oneCell',Nat.reduceAdd,reduceIte,reduceCtorEq,Nat.reduceLT,Nat.reduceLeDiff,Nat.reduceEqDiff,Nat.reduceSub,Nat.reduceMul,frz1,frzR,eq_self,and_self,tys,  Tryz.results67]
 refine aw_loop (fun i:Nat=>[.ro (l.map eI),.sc (.func (.func 53) #[] #[]),.dead,.dead,.dead,.dead,.dead,.sc (.int .i64 (l.length:Int)),.sc (.int .i64 (i:Int))]++deads 10) (fun _=>[]) (fun i=>i≤l.length∧idxI (fun n=> !restAt n) l 0=idxI (fun n=> !restAt n) (l.drop i) i) (fun i=>l.length - i) 0 ?_ ⟨Nat.zero_le _,rfl⟩ ?_
 · simp[Weak,weakL,weakR,weakV,nilV,nilR,okA,listH,deads,pinR,isVarB,pin_pins]
 rintro i ⟨hi,hA⟩
 simp only[deads,List.replicate_succ,List.replicate_zero,List.cons_append,List.nil_append]
 by_cases hlt:i<l.length
 · obtain⟨x,hx⟩:∃x,l[i]? =some x:=⟨_,List.getElem?_eq_getElem hlt⟩
   have e2:at_ (l.map eI) i=eI x:=at_some hx
   have hw:=wr_lt hlt hl
   have hd:l.drop i=x::l.drop (i+1):=by
    rw[List.drop_eq_getElem_cons hlt]
    rw[List.getElem?_eq_getElem hlt] at hx
    rw[Option.some.inj hx]
   rw[hd,idxI] at hA
   cases hp:restAt x
   · simp only[hp,Bool.not_false,if_true] at hA
     rw[hA]
     simp (maxSteps:=2000000) only[↓awA,awB,evA,envE,ofV,putE,listH,setRow,spl,oneP,guardB,frzA,mapO,allSc,closeA,shiftA,shiftR,flatA,flat0,scA,Row.len,fillW,rep,chunks,closed1,Value.oneCell',Nat.reduceAdd,reduceIte,reduceCtorEq,Nat.reduceLT,Nat.reduceLeDiff,Nat.reduceEqDiff,Nat.reduceSub,Nat.reduceMul,frz1,frzR,eq_self,and_self,tys,  hlt,e2,eI,spR_at,hp,Tryz.results67]
   · simp only[hp,Bool.not_true,Bool.false_eq_true,if_false] at hA
     simp (maxSteps:=2000000) only[↓awA,awB,evA,envE,ofV,putE,listH,setRow,spl,oneP,guardB,frzA,mapO,allSc,closeA,shiftA,shiftR,flatA,flat0,scA,Row.len,fillW,rep,chunks,closed1,Value.oneCell',Nat.reduceAdd,reduceIte,reduceCtorEq,Nat.reduceLT,Nat.reduceLeDiff,Nat.reduceEqDiff,Nat.reduceSub,Nat.reduceMul,frz1,frzR,eq_self,and_self,tys,  hlt,e2,eI,spR_at,hp]
     refine loopQ_next (i+1) ?_ ⟨hlt,hA⟩ (by omega)
     simp[Weak,weakL,weakR,weakV,nilV,nilR,okA,listH,deads,pinR,isVarB,pin_pins,  hw]
 · rw[hA,List.drop_of_length_le (by omega),idxI]
   simp (maxSteps:=2000000) only[↓awA,awB,evA,envE,ofV,putE,listH,setRow,spl,oneP,guardB,frzA,mapO,allSc,closeA,shiftA,shiftR,flatA,flat0,scA,Row.len,fillW,rep,chunks,closed1,Value.oneCell',Nat.reduceAdd,reduceIte,reduceCtorEq,Nat.reduceLT,Nat.reduceLeDiff,Nat.reduceEqDiff,Nat.reduceSub,Nat.reduceMul,frz1,frzR,eq_self,and_self,tys,  hlt,Tryz.results67]
noncomputable def spR2 :Spec:=spR.tell 67 (byE eLF (fun _=>True) (fun l=>.sc (.int .i64 (idxI (fun n=> !restAt n) l 0))))
theorem spR2_at {l:List Int}:spR2.call 67 [.ro (l.map eI),.sc (.func (.func 53) #[] #[])]=some (True,.sc (.int .i64 (idxI (fun n=> !restAt n) l 0)),[]):=by
 unfold spR2
 rw[tell_same]
 exact byE_eq eLF_inj l
theorem spR2_ok (w:World) {fp:Nat→Prop}:SpecOk Tryz.prog spR2 w fp:=
 tell_ok (spR_ok w) (enters_of' Tryz.func67 (by kernel_rfl)) (byE_ok fun a _ w _=>indexI_con a w)
theorem containsI_con (l:List Int) (w:World):ConAt Tryz.prog w 52 (eLF l) (.sc (.bool (l.any fun n=> !restAt n))) []:=by
 unfold eLF
 refine con_of_aw (sp:=spR2) (Φ:=fun _=>True) [] (fun w _=>spR2_ok w) (by kernel_rfl) Tryz.func52 rfl ?_ w trivial
 intro hLen
 simp only[Tryz.ntmps52,List.length_cons,List.length_nil,Nat.reduceAdd,Nat.reduceSub,List.replicate_succ,List.replicate_zero,List.cons_append,List.nil_append]
 rw[←idxI_any (fun n=> !restAt n) l 0]
 simp (maxSteps:=2000000) only[↓awA,awB,evA,envE,ofV,putE,listH,setRow,spl,oneP,guardB,frzA,mapO,allSc,closeA,shiftA,shiftR,flatA,flat0,scA,Row.len,fillW,rep,chunks,closed1,Value.oneCell',Nat.reduceAdd,reduceIte,reduceCtorEq,Nat.reduceLT,Nat.reduceLeDiff,Nat.reduceEqDiff,Nat.reduceSub,Nat.reduceMul,frz1,frzR,eq_self,and_self,tys,  spR2_at,Tryz.results52]
noncomputable def spR3 :Spec:=spN.tell 52 (byE eLF (fun _=>True) (fun l=>.sc (.bool (l.any fun n=> !restAt n))))
theorem spR3_at {l:List Int}:spR3.call 52 [.ro (l.map eI),.sc (.func (.func 53) #[] #[])]=some (True,.sc (.bool (l.any fun n=> !restAt n)),[]):=by
 unfold spR3
 rw[tell_same]
 exact byE_eq eLF_inj l
theorem spR3_ok (w:World) {fp:Nat→Prop}:SpecOk Tryz.prog spR3 w fp:=
 tell_ok (spN_ok w) (enters_of' Tryz.func52 (by kernel_rfl)) (byE_ok fun a _ w _=>containsI_con a w)
theorem rested_con (l:List Int) (w:World):ConAt Tryz.prog w 30 (eL l) (.sc (.bool (rests l))) []:=by
 unfold eL
 refine con_of_aw (sp:=spR3) (Φ:=fun _=>True) [] (fun w _=>spR3_ok w) (by kernel_rfl) Tryz.func30 rfl ?_ w trivial
 intro hLen
 simp only[Tryz.ntmps30,List.length_cons,List.length_nil,Nat.reduceAdd,Nat.reduceSub,List.replicate_succ,List.replicate_zero,List.cons_append,List.nil_append]
 have h0:rests l=(decide ((l.length:Int)>0) && decide ((l.length:Int)≤512) && !(l.any fun n=> !restAt n)):=by
  unfold rests
  rw[show decide ((l.length:Int)>0)=decide (0<l.length) from decide_eq_decide.2 (by omega),show decide ((l.length:Int)≤512)=decide (l.length≤512) from decide_eq_decide.2 (by omega),List.not_any_eq_all_not]
  simp only[Bool.not_not]
  rw[Bool.and_assoc,Bool.and_comm]
 rw[h0]
 cases h1:decide ((l.length:Int)>0)
 · simp (maxSteps:=2000000) only[↓awA,awB,evA,envE,ofV,putE,listH,setRow,spl,oneP,guardB,frzA,mapO,allSc,closeA,shiftA,shiftR,flatA,flat0,scA,Row.len,fillW,rep,chunks,closed1,Value.oneCell',Nat.reduceAdd,reduceIte,reduceCtorEq,Nat.reduceLT,Nat.reduceLeDiff,Nat.reduceEqDiff,Nat.reduceSub,Nat.reduceMul,frz1,frzR,eq_self,and_self,tys,  h1,Tryz.results30]
 · cases h2:decide ((l.length:Int)≤512)
   · simp (maxSteps:=2000000) only[↓awA,awB,evA,envE,ofV,putE,listH,setRow,spl,oneP,guardB,frzA,mapO,allSc,closeA,shiftA,shiftR,flatA,flat0,scA,Row.len,fillW,rep,chunks,closed1,Value.oneCell',Nat.reduceAdd,reduceIte,reduceCtorEq,Nat.reduceLT,Nat.reduceLeDiff,Nat.reduceEqDiff,Nat.reduceSub,Nat.reduceMul,frz1,frzR,eq_self,and_self,tys,  h1,h2,Tryz.results30]
   · simp (maxSteps:=2000000) only[↓awA,awB,evA,envE,ofV,putE,listH,setRow,spl,oneP,guardB,frzA,mapO,allSc,closeA,shiftA,shiftR,flatA,flat0,scA,Row.len,fillW,rep,chunks,closed1,Value.oneCell',Nat.reduceAdd,reduceIte,reduceCtorEq,Nat.reduceLT,Nat.reduceLeDiff,Nat.reduceEqDiff,Nat.reduceSub,Nat.reduceMul,frz1,frzR,eq_self,and_self,tys,  h1,h2,spR3_at,Tryz.results30]
end Go.Proofs.YtpjodoipceddpaaGreatDoor.Aw
namespace Go.Proofs.YtpjodoipceddpaaGreatDoor.Aw
open Go.RowKit Go.Lib Rc
set_option maxHeartbeats 4000000
set_option maxRecDepth 100000
def eB (b:UInt8):List AV:=[.sc (.int .u8 (b.toNat:Int))]
theorem eB_inj {x y:UInt8} (h:eB x=eB y):x=y:=by
 unfold eB at h
 simp only[List.cons.injEq,AV.sc.injEq,Value.int.injEq,and_true,true_and] at h
 exact UInt8.toNat_inj.1 (Int.ofNat_inj.1 h)
theorem digit_con (b:UInt8) (w:World):ConAt Tryz.prog w 86 (eB b) (.sc (.bool (isD b))) []:=by
 unfold eB
 refine con_of_aw (sp:=spN) (Φ:=fun _=>True) [] (fun w _=>spN_ok w) (by kernel_rfl) Tryz.func86 rfl ?_ w trivial
 intro hLen
 simp only[Tryz.ntmps86,List.length_cons,List.length_nil,Nat.reduceAdd,Nat.reduceSub,List.replicate_succ,List.replicate_zero,List.cons_append,List.nil_append]
 have e:isD b=(decide ((b.toNat:Int)≥48) && decide ((b.toNat:Int)≤57)):=by
  unfold isD
  rw[show decide ((b.toNat:Int)≥48)=decide (48≤b.toNat) from decide_eq_decide.2 (by omega),show decide ((b.toNat:Int)≤57)=decide (b.toNat≤57) from decide_eq_decide.2 (by omega)]
 rw[e]
 cases h1:decide ((b.toNat:Int)≥48)
 · simp (maxSteps:=2000000) only[↓awA,awB,evA,envE,ofV,putE,listH,setRow,spl,oneP,guardB,frzA,mapO,allSc,closeA,shiftA,shiftR,flatA,flat0,scA,Row.len,fillW,rep,chunks,closed1,Value.oneCell',Nat.reduceAdd,reduceIte,reduceCtorEq,Nat.reduceLT,Nat.reduceLeDiff,Nat.reduceEqDiff,Nat.reduceSub,Nat.reduceMul,frz1,frzR,eq_self,and_self,tys,  h1,Tryz.results86]
 · simp (maxSteps:=2000000) only[↓awA,awB,evA,envE,ofV,putE,listH,setRow,spl,oneP,guardB,frzA,mapO,allSc,closeA,shiftA,shiftR,flatA,flat0,scA,Row.len,fillW,rep,chunks,closed1,Value.oneCell',Nat.reduceAdd,reduceIte,reduceCtorEq,Nat.reduceLT,Nat.reduceLeDiff,Nat.reduceEqDiff,Nat.reduceSub,Nat.reduceMul,frz1,frzR,eq_self,and_self,tys,  h1,Tryz.results86]
def lwN (n:Nat):Nat:=if n / 32 % 2=1 then n else n+32
theorem lw_bits (n:Nat) (h:n<256):bits .or .u8 (n:Int) 32=lwN n:=by
 have:∀k:Fin 256,bits .or .u8 ((k.val:Nat):Int) 32=lwN k.val:=by decide+kernel
 exact this ⟨n,h⟩
theorem isL_lw (b:UInt8):isL b=(decide (b.toNat=95)||(decide (97≤lwN b.toNat) && decide (lwN b.toNat≤122))):=by
 have:∀k:Fin 256,(decide (k.val=95)||(decide (65≤k.val) && decide (k.val≤90))||(decide (97≤k.val) && decide (k.val≤122)))=(decide (k.val=95)||(decide (97≤lwN k.val) && decide (lwN k.val≤122))):=by decide+kernel
 exact this ⟨b.toNat,b.toNat_lt⟩
section
theorem letter_any (b:UInt8) (w:World):Calls Tryz.prog 88 #[.int .u8 (b.toNat:Int)] w fun e w'=>e=.returned (.bool (isL b))∧Fr (fun _=>False) w w':=by
 have h:=lw_bits b.toNat (UInt8.toNat_lt _)
 rw[isL_lw]
 obtain⟨n,hn⟩:∃n,n=b.toNat:=⟨_,rfl⟩
 rw[←hn] at h⊢
 clear hn
 generalize lwN n=m at h⊢
 by_cases h1:n=95
 · subst h1
   go_enter Tryz.func88,Tryz.ntmps88
   go_wp2
   go_ret
   exact⟨rfl,Fr.refl _ _⟩
 · have i1:¬(n:Int)=95:=by omega
   have ib:((n:Int)==95)=false:=by rw[beq_eq_false_iff_ne];exact i1
   by_cases h2:97≤m
   · have i2:(97:Int)≤m:=by omega
     by_cases h3:m≤122
     · have i3:(m:Int)≤122:=by omega
       rw[decide_eq_false h1,decide_eq_true h2,decide_eq_true h3]
       go_enter Tryz.func88,Tryz.ntmps88
       go_wp2
       go_ret
       first|exact⟨rfl,Fr.refl _ _⟩|(refine⟨?_,Fr.refl _ _⟩;show Ending.returned (.bool ((n:Int)==95))=_;rw[ib];rfl)
     · have i3:¬(m:Int)≤122:=by omega
       rw[decide_eq_false h1,decide_eq_true h2,decide_eq_false h3]
       go_enter Tryz.func88,Tryz.ntmps88
       go_wp2
       go_ret
       first|exact⟨rfl,Fr.refl _ _⟩|(refine⟨?_,Fr.refl _ _⟩;show Ending.returned (.bool ((n:Int)==95))=_;rw[ib];rfl)
   · have i2:¬(97:Int)≤m:=by omega
     rw[decide_eq_false h1,decide_eq_false h2]
     go_enter Tryz.func88,Tryz.ntmps88
     go_wp2
     go_ret
     first|exact⟨rfl,Fr.refl _ _⟩|(refine⟨?_,Fr.refl _ _⟩;show Ending.returned (.bool ((n:Int)==95))=_;rw[ib];rfl)
end
theorem letter_con (b:UInt8) (w:World):ConAt Tryz.prog w 88 (eB b) (.sc (.bool (isL b))) []:=by
 refine con_flat fun S vs hS hl hv=> ?_
 match vs,hl with
 |[v],_=>
  have e1:=(hv 0 _ v rfl rfl).sc_inv
  subst e1
  exact letter_any b w
noncomputable def spL :Spec:=(spN.tell 86 (byE eB (fun _=>True) (fun b=>.sc (.bool (isD b))))).tell 88 (byE eB (fun _=>True) (fun b=>.sc (.bool (isL b))))
theorem spL_digit {b:UInt8}:spL.call 86 [.sc (.int .u8 (b.toNat:Int))]=some (True,.sc (.bool (isD b)),[]):=by
 unfold spL
 rw[tell_ne (by rfl),tell_same]
 exact byE_eq (fun _ _=>eB_inj) b
theorem spL_letter {b:UInt8}:spL.call 88 [.sc (.int .u8 (b.toNat:Int))]=some (True,.sc (.bool (isL b)),[]):=by
 unfold spL
 rw[tell_same]
 exact byE_eq (fun _ _=>eB_inj) b
theorem spL_ok (w:World) {fp:Nat→Prop}:SpecOk Tryz.prog spL w fp:=
 tell_ok (tell_ok (spN_ok w) (enters_of' Tryz.func86 (by kernel_rfl)) (byE_ok fun a _ w _=>digit_con a w)) (enters_of' Tryz.func88 (by kernel_rfl)) (byE_ok fun a _ w _=>letter_con a w)
theorem first1_con (b:UInt8) (w:World):ConAt Tryz.prog w 89 (eB b) (.sc (.bool (isLD b))) []:=by
 unfold eB isLD
 refine con_of_aw (sp:=spL) (Φ:=fun _=>True) [] (fun w _=>spL_ok w) (by kernel_rfl) Tryz.func89 rfl ?_ w trivial
 intro hLen
 simp only[Tryz.ntmps89,List.length_cons,List.length_nil,Nat.reduceAdd,Nat.reduceSub,List.replicate_succ,List.replicate_zero,List.cons_append,List.nil_append]
 cases h1:isL b
 · simp (maxSteps:=2000000) only[↓awA,awB,evA,envE,ofV,putE,listH,setRow,spl,oneP,guardB,frzA,mapO,allSc,closeA,shiftA,shiftR,flatA,flat0,scA,Row.len,fillW,rep,chunks,closed1,Value.oneCell',Nat.reduceAdd,reduceIte,reduceCtorEq,Nat.reduceLT,Nat.reduceLeDiff,Nat.reduceEqDiff,Nat.reduceSub,Nat.reduceMul,frz1,frzR,eq_self,and_self,tys,  spL_letter,h1,spL_digit,Tryz.results89]
 · simp (maxSteps:=2000000) only[↓awA,awB,evA,envE,ofV,putE,listH,setRow,spl,oneP,guardB,frzA,mapO,allSc,closeA,shiftA,shiftR,flatA,flat0,scA,Row.len,fillW,rep,chunks,closed1,Value.oneCell',Nat.reduceAdd,reduceIte,reduceCtorEq,Nat.reduceLT,Nat.reduceLeDiff,Nat.reduceEqDiff,Nat.reduceSub,Nat.reduceMul,frz1,frzR,eq_self,and_self,tys,  spL_letter,h1,Tryz.results89]
theorem runM_cons (p:UInt8→Bool) (c:UInt8) (r:T):runM p (c::r)=if p c then runM p r+1 else 0:=by
 unfold runM
 rw[List.takeWhile_cons]
 split<;>rfl
theorem byteAt_some {s:ByteArray} {i:Nat} {b:UInt8} (h:s.data.toList[i]? =some b):byteAt s i=(b.toNat:Int):=by
 unfold byteAt
 rw[List.getD_eq_getElem?_getD,h]
 rfl
theorem run_con (f:FuncId) (p:UInt8→Bool) (hE:Enters Tryz.prog f) (hf:∀b w,ConAt Tryz.prog w f (eB b) (.sc (.bool (p b))) []) (s:ByteArray) (hs:s.size≤9223372036854775807) (w:World):
 ConAt Tryz.prog w 87 [.sc (.string s),.sc (.func (.func f) #[] #[])] (.sc (.int .i64 (runM p s.data.toList:Nat))) []:=by
 have hsp:∀{b:UInt8},(spN.tell f (byE eB (fun _=>True) (fun b=>.sc (.bool (p b))))).call f [.sc (.int .u8 (b.toNat:Int))]=some (True,.sc (.bool (p b)),[]):=fun {b}=>by
  rw[tell_same]
  exact byE_eq (fun _ _=>eB_inj) b
 have hok:∀w:World,SpecOk Tryz.prog (spN.tell f (byE eB (fun _=>True) (fun b=>.sc (.bool (p b))))) w (fun _=>False):=fun w=>tell_ok (spN_ok w) hE (byE_ok fun a _ w _=>hf a w)
 have hpn:(spN.tell f (byE eB (fun _=>True) (fun b=>.sc (.bool (p b))))).pins=0:=rfl
 generalize spN.tell f (byE eB (fun _=>True) (fun b=>.sc (.bool (p b))))=sp at hsp hok hpn
 refine con_of_aw (sp:=sp) (Φ:=fun _=>True) [] (fun w _=>hok w) (by kernel_rfl) Tryz.func87 rfl ?_ w trivial
 intro hLen
 simp only[Tryz.ntmps87,List.length_cons,List.length_nil,Nat.reduceAdd,Nat.reduceSub,List.replicate_succ,List.replicate_zero,List.cons_append,List.nil_append]
 simp (maxSteps:=2000000) only[↓awA,awB,evA,envE,ofV,putE,listH,setRow,spl,oneP,guardB,frzA,mapO,allSc,closeA,shiftA,shiftR,flatA,flat0,scA,Row.len,fillW,rep,chunks,closed1,Value.oneCell',Nat.reduceAdd,reduceIte,reduceCtorEq,Nat.reduceLT,Nat.reduceLeDiff,Nat.reduceEqDiff,Nat.reduceSub,Nat.reduceMul,frz1,frzR,eq_self,and_self,tys,  Tryz.results87]
 have hl:s.data.toList.length=s.size:=rfl
 refine aw_loop (fun i:Nat=>[.sc (.string s),.sc (.func (.func f) #[] #[]),.dead,.dead,.dead,.sc (.int .i64 (i:Int))]++deads 14) (fun _=>[]) (fun i=>i≤s.size∧runM p s.data.toList=i+runM p (s.data.toList.drop i)) (fun i=>s.size - i) 0 ?_ ⟨Nat.zero_le _,by simp⟩ ?_ (fun _ _=>by rw[hpn];trivial)
 · simp[Weak,weakL,weakR,weakV,nilV,nilR,okA,listH,deads,pinR,isVarB,pin_pins]
 rintro i ⟨hi,hA⟩
 simp only[deads,List.replicate_succ,List.replicate_zero,List.cons_append,List.nil_append]
 by_cases hlt:i<s.size
 · obtain⟨x,hx⟩:∃x,s.data.toList[i]? =some x:=⟨_,List.getElem?_eq_getElem (by omega)⟩
   have e2:=byteAt_some hx
   have hw:=wr_lt hlt hs
   have hd:s.data.toList.drop i=x::s.data.toList.drop (i+1):=by
    rw[List.drop_eq_getElem_cons (by omega)]
    rw[List.getElem?_eq_getElem (by omega)] at hx
    rw[Option.some.inj hx]
   rw[hd,runM_cons] at hA
   cases hp:p x
   · rw[hp,if_neg (by simp),Nat.add_zero] at hA
     rw[hA]
     simp (maxSteps:=2000000) only[↓awA,awB,evA,envE,ofV,putE,listH,setRow,spl,oneP,guardB,frzA,mapO,allSc,closeA,shiftA,shiftR,flatA,flat0,scA,Row.len,fillW,rep,chunks,closed1,Value.oneCell',Nat.reduceAdd,reduceIte,reduceCtorEq,Nat.reduceLT,Nat.reduceLeDiff,Nat.reduceEqDiff,Nat.reduceSub,Nat.reduceMul,frz1,frzR,eq_self,and_self,tys,  hlt,e2,hsp,hp,Tryz.results87]
   · rw[hp,if_pos rfl] at hA
     simp (maxSteps:=2000000) only[↓awA,awB,evA,envE,ofV,putE,listH,setRow,spl,oneP,guardB,frzA,mapO,allSc,closeA,shiftA,shiftR,flatA,flat0,scA,Row.len,fillW,rep,chunks,closed1,Value.oneCell',Nat.reduceAdd,reduceIte,reduceCtorEq,Nat.reduceLT,Nat.reduceLeDiff,Nat.reduceEqDiff,Nat.reduceSub,Nat.reduceMul,frz1,frzR,eq_self,and_self,tys,  hlt,e2,hsp,hp]
     refine loopQ_next (i+1) ?_ ⟨hlt,by omega⟩ (by omega)
     simp[Weak,weakL,weakR,weakV,nilV,nilR,okA,listH,deads,pinR,isVarB,pin_pins,  hw]
 · have:runM p s.data.toList=i:=by
    rw[hA,List.drop_of_length_le (by omega)]
    rfl
   rw[this]
   simp (maxSteps:=2000000) only[↓awA,awB,evA,envE,ofV,putE,listH,setRow,spl,oneP,guardB,frzA,mapO,allSc,closeA,shiftA,shiftR,flatA,flat0,scA,Row.len,fillW,rep,chunks,closed1,Value.oneCell',Nat.reduceAdd,reduceIte,reduceCtorEq,Nat.reduceLT,Nat.reduceLeDiff,Nat.reduceEqDiff,Nat.reduceSub,Nat.reduceMul,frz1,frzR,eq_self,and_self,tys,  hlt,Tryz.results87]
end Go.Proofs.YtpjodoipceddpaaGreatDoor.Aw
namespace Go.Proofs.YtpjodoipceddpaaGreatDoor.Aw
open Go.RowKit Go.Lib Rc
theorem var_fr {P:Program} {w w':World} {n:String} {cs:Array Value} (h:w.var? P n=some cs) (f:Fr (fun _=>False) w w'):w'.var? P n=some cs:=by
 unfold World.var? at h⊢
 cases hg:P.globalNamed n with
 |none=>rw[hg] at h;cases h
 |some g=>
  rw[hg] at h
  simp only[Option.bind_some] at h⊢
  cases hb:w.heap[g]? with
  |none=>rw[hb] at h;cases h
  |some o=>
   rw[f.block g (lt_of_block hb) (fun h=>h)]
   exact h
structure TrSt (w:World):Prop where
 tab:TabIs Tryz.prog w "internal/strconv.uint64pow10" .u64 pow10Tab
 ml:∃m,w.cell? ⟨0,0,none⟩=some (.int .i64 m)
 sg:∀i,i<14→w.cell? ⟨2,i,none⟩=some (.string ⟨(signs.getD i []).toArray⟩)
theorem cell_fr {w w':World} {a:Addr} {v:Value} (h:w.cell? a=some v) (f:Fr (fun _=>False) w w'):w'.cell? a=some v:=by
 rw[f.cell (World.block_lt_of_cell? w _ h) (fun h=>h)]
 exact h
theorem TrSt.fr {w w':World} (h:TrSt w) (f:Fr (fun _=>False) w w'):TrSt w' where
 tab:=var_fr h.tab f
 ml:=by
  obtain⟨m,hm⟩:=h.ml
  exact⟨m,cell_fr hm f⟩
 sg:=fun i hi=>cell_fr (h.sg i hi) f
end Go.Proofs.YtpjodoipceddpaaGreatDoor.Aw
