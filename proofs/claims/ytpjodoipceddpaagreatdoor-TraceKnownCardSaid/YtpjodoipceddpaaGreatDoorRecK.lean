/- Traces: a record's line, to the document, walked abstractly. -/
import Derived.Test.YtpjodoipceddpaaGreatDoorRecJ
namespace Go.Proofs.YtpjodoipceddpaaGreatDoor.Aw
open Go.RowKit Go.Lib Rc
set_option maxHeartbeats 8000000
set_option maxRecDepth 100000
theorem itoa_len {n:Int} (h1: -9223372036854775808≤n) (h2:n≤9223372036854775807):(itoa n).length≤21:=by
 rw[←put_itoa,put_dI]
 have hlen:(dI n.natAbs).length≤20:=by
  unfold dI
  rw[List.length_map]
  exact digs_len 20 n.natAbs (by omega)
 split
 · simp
 · split
   · rw[List.length_cons,List.length_reverse,List.length_map]
     omega
   · rw[List.length_reverse,List.length_map]
     omega
theorem size_bt (t:T):(bt t).size=t.length:=by
 unfold bt
 show t.toArray.size=_
 simp
def In1 (n:Int):Prop:= -9223372036854775808≤n∧n≤9223372036854775807
noncomputable def spM :Spec:=spN.tell 39 (byE eI In1 (fun n=>.sc (.string (bt (itoa n)))))
theorem spM_put {n:Int}:spM.call 39 [.sc (.int .i64 n)]=some (In1 n,.sc (.string (bt (itoa n))),[]):=by
 unfold spM
 rw[tell_same]
 exact byE_eq (fun _ _=>eI_inj) n
theorem spM_ok (w:World) {fp:Nat→Prop}:SpecOk Tryz.prog spM w fp:=
 tell_ok (spN_ok w) (enters_of' Tryz.func39 (by kernel_rfl)) (byE_ok fun a h w _=>put6_con a h.1 h.2 w)
theorem number31_con (n:Int) (h:In1 n) (w:World):ConAt Tryz.prog w 40 (eI n) (.sc (.string (bt (32::itoa n)))) []:=by
 unfold eI
 refine con_of_aw (sp:=spM) (Φ:=fun _=>True) [] (fun w _=>spM_ok w) (by kernel_rfl) Tryz.func40 rfl ?_ w trivial
 intro hLen
 simp only[Tryz.ntmps40,List.length_cons,List.length_nil,Nat.reduceAdd,Nat.reduceSub,List.replicate_succ,List.replicate_zero,List.cons_append,List.nil_append]
 have hs:(⟨#[32]⟩:ByteArray).size+(bt (itoa n)).size≤9223372036854775807:=by
  have:=itoa_len h.1 h.2
  rw[size_bt]
  show 1+_≤_
  omega
 have hap:(⟨#[32]⟩:ByteArray)++bt (itoa n)=bt (32::itoa n):=bt_app [32] _
 simp (maxSteps:=2000000) only[↓awA,awB,evA,envE,ofV,putE,listH,setRow,spl,oneP,guardB,frzA,mapO,allSc,closeA,shiftA,shiftR,flatA,flat0,scA,Row.len,fillW,rep,chunks,closed1,Value.oneCell',Nat.reduceAdd,reduceIte,reduceCtorEq,Nat.reduceLT,Nat.reduceLeDiff,Nat.reduceEqDiff,Nat.reduceSub,Nat.reduceMul,frz1,frzR,eq_self,and_self,tys,  spM_put,h,hs,hap,Tryz.results40]
noncomputable def spN3 :Spec:=(spM.tell 40 (byE eI In1 (fun n=>.sc (.string (bt (32::itoa n)))))).lits
theorem spN3_put {n:Int}:spN3.call 39 [.sc (.int .i64 n)]=some (In1 n,.sc (.string (bt (itoa n))),[]):=by
 unfold spN3
 rw[lits_call,tell_ne (by rfl)]
 exact spM_put
theorem spN3_num {n:Int}:spN3.call 40 [.sc (.int .i64 n)]=some (In1 n,.sc (.string (bt (32::itoa n))),[]):=by
 unfold spN3
 rw[lits_call,tell_same]
 exact byE_eq (fun _ _=>eI_inj) n
theorem spN3_ok (w:World) {fp:Nat→Prop}:SpecOk Tryz.prog spN3 w fp:=
 lits_ok<|tell_ok (spM_ok w) (enters_of' Tryz.func40 (by kernel_rfl)) (byE_ok fun a h w _=>number31_con a h w)
theorem spN3_lit :(spN3.lit=true)=True:=eq_true rfl
def numsT (l:List Int):T:=(l.map fun n=>32::itoa n).flatten
theorem tail_nums (l:List Int):joinTail [32] (l.map itoa)=numsT l:=by
 unfold joinTail numsT
 rw[List.map_map]
 rfl
theorem numsT_len {l:List Int} (h:∀n∈l,In1 n):(numsT l).length≤22*l.length:=by
 induction l with
 |nil=>simp[numsT]
 |cons x l ih=>
  have h1:=itoa_len (h x List.mem_cons_self).1 (h x List.mem_cons_self).2
  have h2:=ih (fun n hn=>h n (List.mem_cons_of_mem _ hn))
  unfold numsT at h2⊢
  rw[List.map_cons,List.flatten_cons,List.length_append,List.length_cons,List.length_cons]
  omega
theorem line31_list (o:Nat) (ho:o=9∨o=10∨o=11∨o=12) (l:List Int) (hfl:∀n∈l,In1 n) (hl:l.length≤1000000) (w:World):ConAt Tryz.prog w 19 (eR ⟨o,0,[],0,l⟩) (.sc (.string (bt (Rc.opW o++numsT l++[10])))) []:=by
 have hR:=Tryz.results19
 have h10:(⟨#[10]⟩:ByteArray)=bt [10]:=rfl
 have app:∀x y:T,bt x++bt y=bt (x++y):=bt_app
 unfold eR cR
 refine con_of_aw (sp:=spN3) (Φ:=fun _=>True) [] (fun w _=>spN3_ok w) (by kernel_rfl) Tryz.func19 rfl ?_ w trivial
 intro hLen
 simp only[Tryz.ntmps19,List.length_cons,List.length_nil,Nat.reduceAdd,Nat.reduceSub,List.replicate_succ,List.replicate_zero,List.cons_append,List.nil_append]
 rcases ho with rfl|rfl|rfl|rfl
 · have e8:(⟨#[102,105,114,101]⟩:ByteArray)=bt (Rc.opW 9):=rfl
   have c8:(((9:Nat):Int)==8)=false:=rfl
   have c7:decide (((9:Nat):Int)≤7)=false:=rfl
   have c13:(((9:Nat):Int)==13)=false:=rfl
   have hpl:(Rc.opW 9).length≤1000:=by decide
   simp (maxSteps:=2000000) only[↓awA,awB,evA,envE,ofV,putE,listH,setRow,spl,oneP,guardB,frzA,mapO,allSc,closeA,shiftA,shiftR,flatA,flat0,scA,Row.len,fillW,rep,chunks,closed1,Value.oneCell',Nat.reduceAdd,reduceIte,reduceCtorEq,Nat.reduceLT,Nat.reduceLeDiff,Nat.reduceEqDiff,Nat.reduceSub,Nat.reduceMul,frz1,frzR,eq_self,and_self,tys,  at_,c8,c7,c13,eI,spN3_lit,e8,hR]
   obtain⟨p,hp⟩:∃p,p=Rc.opW 9:=⟨_,rfl⟩
   rw[←hp] at hpl⊢
   refine aw_loop (fun i:Nat=>[.dead,.ptr 0 0,.dead,.sc (.string (bt (p++numsT (l.take i)))),.sc (.int .i64 (i:Int))]++deads 70) (fun _=>[.var [.sc (.int .u8 ((9:Nat):Int)),.sc (.int .i64 0),.sc (.string (bt [])),.sc (.int .i64 0),.ro (l.map eI)] 49])
    (fun i=>i≤l.length) (fun i=>l.length - i) 0 ?_ (Nat.zero_le _) ?_ (fun _ _=>by rw[show spN3.pins=0 from rfl];trivial)
   · simp[Weak,weakL,weakR,weakV,nilV,nilR,okA,listH,deads,pinR,isVarB,pin_pins,  numsT]
   intro i hi
   simp only[deads,List.replicate_succ,List.replicate_zero,List.cons_append,List.nil_append]
   have hti:(p++numsT (l.take i)).length≤1000+22*1000000:=by
    have:=numsT_len (l:=l.take i) (fun n hn=>hfl n (List.mem_of_mem_take hn))
    rw[List.length_take] at this
    rw[List.length_append]
    omega
   by_cases hlt:i<l.length
   · obtain⟨x,hx⟩:∃x,l[i]? =some x:=⟨_,List.getElem?_eq_getElem hlt⟩
     have e2:at_ (l.map eI) i=eI x:=at_some hx
     have hxi:=hfl x (List.mem_of_getElem? hx)
     have hxl:=itoa_len hxi.1 hxi.2
     have hw:=wr_lt hlt (by omega)
     have hs:(bt (p++numsT (l.take i))).size+(bt (32::itoa x)).size≤9223372036854775807:=by rw[size_bt,size_bt,List.length_cons];omega
     have hnx:p++numsT (l.take i)++(32::itoa x)=p++numsT (l.take (i+1)):=by
      rw[take_at hx]
      unfold numsT
      rw[List.map_append,List.flatten_append]
      simp
     simp (maxSteps:=2000000) only[↓awA,awB,evA,envE,ofV,putE,listH,setRow,spl,oneP,guardB,frzA,mapO,allSc,closeA,shiftA,shiftR,flatA,flat0,scA,Row.len,fillW,rep,chunks,closed1,Value.oneCell',Nat.reduceAdd,reduceIte,reduceCtorEq,Nat.reduceLT,Nat.reduceLeDiff,Nat.reduceEqDiff,Nat.reduceSub,Nat.reduceMul,frz1,frzR,eq_self,and_self,tys,  hlt,e2,eI,spN3_num,hxi,hs,app,hnx]
     refine loopQ_next (i+1) ?_ hlt (by omega)
     simp[Weak,weakL,weakR,weakV,nilV,nilR,okA,listH,deads,pinR,isVarB,pin_pins,  hw]
   · have htl:l.take i=l:=List.take_of_length_le (by omega)
     have hs:(bt (p++numsT (l.take i))).size+(bt [10]).size≤9223372036854775807:=by rw[size_bt,size_bt];simp;simp at hti;omega
     rw[htl] at hs
     simp (maxSteps:=2000000) only[↓awA,awB,evA,envE,ofV,putE,listH,setRow,spl,oneP,guardB,frzA,mapO,allSc,closeA,shiftA,shiftR,flatA,flat0,scA,Row.len,fillW,rep,chunks,closed1,Value.oneCell',Nat.reduceAdd,reduceIte,reduceCtorEq,Nat.reduceLT,Nat.reduceLeDiff,Nat.reduceEqDiff,Nat.reduceSub,Nat.reduceMul,frz1,frzR,eq_self,and_self,tys,  hlt,htl,h10,hs,app,hR]
 · have e8:(⟨#[100,101,102,101,114]⟩:ByteArray)=bt (Rc.opW 10):=rfl
   have c8:(((10:Nat):Int)==8)=false:=rfl
   have c7:decide (((10:Nat):Int)≤7)=false:=rfl
   have c13:(((10:Nat):Int)==13)=false:=rfl
   have hpl:(Rc.opW 10).length≤1000:=by decide
   simp (maxSteps:=2000000) only[↓awA,awB,evA,envE,ofV,putE,listH,setRow,spl,oneP,guardB,frzA,mapO,allSc,closeA,shiftA,shiftR,flatA,flat0,scA,Row.len,fillW,rep,chunks,closed1,Value.oneCell',Nat.reduceAdd,reduceIte,reduceCtorEq,Nat.reduceLT,Nat.reduceLeDiff,Nat.reduceEqDiff,Nat.reduceSub,Nat.reduceMul,frz1,frzR,eq_self,and_self,tys,  at_,c8,c7,c13,eI,spN3_lit,e8,hR]
   obtain⟨p,hp⟩:∃p,p=Rc.opW 10:=⟨_,rfl⟩
   rw[←hp] at hpl⊢
   refine aw_loop (fun i:Nat=>[.dead,.ptr 0 0,.dead,.sc (.string (bt (p++numsT (l.take i)))),.sc (.int .i64 (i:Int))]++deads 70) (fun _=>[.var [.sc (.int .u8 ((10:Nat):Int)),.sc (.int .i64 0),.sc (.string (bt [])),.sc (.int .i64 0),.ro (l.map eI)] 49])
    (fun i=>i≤l.length) (fun i=>l.length - i) 0 ?_ (Nat.zero_le _) ?_ (fun _ _=>by rw[show spN3.pins=0 from rfl];trivial)
   · simp[Weak,weakL,weakR,weakV,nilV,nilR,okA,listH,deads,pinR,isVarB,pin_pins,  numsT]
   intro i hi
   simp only[deads,List.replicate_succ,List.replicate_zero,List.cons_append,List.nil_append]
   have hti:(p++numsT (l.take i)).length≤1000+22*1000000:=by
    have:=numsT_len (l:=l.take i) (fun n hn=>hfl n (List.mem_of_mem_take hn))
    rw[List.length_take] at this
    rw[List.length_append]
    omega
   by_cases hlt:i<l.length
   · obtain⟨x,hx⟩:∃x,l[i]? =some x:=⟨_,List.getElem?_eq_getElem hlt⟩
     have e2:at_ (l.map eI) i=eI x:=at_some hx
     have hxi:=hfl x (List.mem_of_getElem? hx)
     have hxl:=itoa_len hxi.1 hxi.2
     have hw:=wr_lt hlt (by omega)
     have hs:(bt (p++numsT (l.take i))).size+(bt (32::itoa x)).size≤9223372036854775807:=by rw[size_bt,size_bt,List.length_cons];omega
     have hnx:p++numsT (l.take i)++(32::itoa x)=p++numsT (l.take (i+1)):=by
      rw[take_at hx]
      unfold numsT
      rw[List.map_append,List.flatten_append]
      simp
     simp (maxSteps:=2000000) only[↓awA,awB,evA,envE,ofV,putE,listH,setRow,spl,oneP,guardB,frzA,mapO,allSc,closeA,shiftA,shiftR,flatA,flat0,scA,Row.len,fillW,rep,chunks,closed1,Value.oneCell',Nat.reduceAdd,reduceIte,reduceCtorEq,Nat.reduceLT,Nat.reduceLeDiff,Nat.reduceEqDiff,Nat.reduceSub,Nat.reduceMul,frz1,frzR,eq_self,and_self,tys,  hlt,e2,eI,spN3_num,hxi,hs,app,hnx]
     refine loopQ_next (i+1) ?_ hlt (by omega)
     simp[Weak,weakL,weakR,weakV,nilV,nilR,okA,listH,deads,pinR,isVarB,pin_pins,  hw]
   · have htl:l.take i=l:=List.take_of_length_le (by omega)
     have hs:(bt (p++numsT (l.take i))).size+(bt [10]).size≤9223372036854775807:=by rw[size_bt,size_bt];simp;simp at hti;omega
     rw[htl] at hs
     simp (maxSteps:=2000000) only[↓awA,awB,evA,envE,ofV,putE,listH,setRow,spl,oneP,guardB,frzA,mapO,allSc,closeA,shiftA,shiftR,flatA,flat0,scA,Row.len,fillW,rep,chunks,closed1,Value.oneCell',Nat.reduceAdd,reduceIte,reduceCtorEq,Nat.reduceLT,Nat.reduceLeDiff,Nat.reduceEqDiff,Nat.reduceSub,Nat.reduceMul,frz1,frzR,eq_self,and_self,tys,  hlt,htl,h10,hs,app,hR]
 · have e8:(⟨#[100,114,111,112]⟩:ByteArray)=bt (Rc.opW 11):=rfl
   have c8:(((11:Nat):Int)==8)=false:=rfl
   have c7:decide (((11:Nat):Int)≤7)=false:=rfl
   have c13:(((11:Nat):Int)==13)=false:=rfl
   have hpl:(Rc.opW 11).length≤1000:=by decide
   simp (maxSteps:=2000000) only[↓awA,awB,evA,envE,ofV,putE,listH,setRow,spl,oneP,guardB,frzA,mapO,allSc,closeA,shiftA,shiftR,flatA,flat0,scA,Row.len,fillW,rep,chunks,closed1,Value.oneCell',Nat.reduceAdd,reduceIte,reduceCtorEq,Nat.reduceLT,Nat.reduceLeDiff,Nat.reduceEqDiff,Nat.reduceSub,Nat.reduceMul,frz1,frzR,eq_self,and_self,tys,  at_,c8,c7,c13,eI,spN3_lit,e8,hR]
   obtain⟨p,hp⟩:∃p,p=Rc.opW 11:=⟨_,rfl⟩
   rw[←hp] at hpl⊢
   refine aw_loop (fun i:Nat=>[.dead,.ptr 0 0,.dead,.sc (.string (bt (p++numsT (l.take i)))),.sc (.int .i64 (i:Int))]++deads 70) (fun _=>[.var [.sc (.int .u8 ((11:Nat):Int)),.sc (.int .i64 0),.sc (.string (bt [])),.sc (.int .i64 0),.ro (l.map eI)] 49])
    (fun i=>i≤l.length) (fun i=>l.length - i) 0 ?_ (Nat.zero_le _) ?_ (fun _ _=>by rw[show spN3.pins=0 from rfl];trivial)
   · simp[Weak,weakL,weakR,weakV,nilV,nilR,okA,listH,deads,pinR,isVarB,pin_pins,  numsT]
   intro i hi
   simp only[deads,List.replicate_succ,List.replicate_zero,List.cons_append,List.nil_append]
   have hti:(p++numsT (l.take i)).length≤1000+22*1000000:=by
    have:=numsT_len (l:=l.take i) (fun n hn=>hfl n (List.mem_of_mem_take hn))
    rw[List.length_take] at this
    rw[List.length_append]
    omega
   by_cases hlt:i<l.length
   · obtain⟨x,hx⟩:∃x,l[i]? =some x:=⟨_,List.getElem?_eq_getElem hlt⟩
     have e2:at_ (l.map eI) i=eI x:=at_some hx
     have hxi:=hfl x (List.mem_of_getElem? hx)
     have hxl:=itoa_len hxi.1 hxi.2
     have hw:=wr_lt hlt (by omega)
     have hs:(bt (p++numsT (l.take i))).size+(bt (32::itoa x)).size≤9223372036854775807:=by rw[size_bt,size_bt,List.length_cons];omega
     have hnx:p++numsT (l.take i)++(32::itoa x)=p++numsT (l.take (i+1)):=by
      rw[take_at hx]
      unfold numsT
      rw[List.map_append,List.flatten_append]
      simp
     simp (maxSteps:=2000000) only[↓awA,awB,evA,envE,ofV,putE,listH,setRow,spl,oneP,guardB,frzA,mapO,allSc,closeA,shiftA,shiftR,flatA,flat0,scA,Row.len,fillW,rep,chunks,closed1,Value.oneCell',Nat.reduceAdd,reduceIte,reduceCtorEq,Nat.reduceLT,Nat.reduceLeDiff,Nat.reduceEqDiff,Nat.reduceSub,Nat.reduceMul,frz1,frzR,eq_self,and_self,tys,  hlt,e2,eI,spN3_num,hxi,hs,app,hnx]
     refine loopQ_next (i+1) ?_ hlt (by omega)
     simp[Weak,weakL,weakR,weakV,nilV,nilR,okA,listH,deads,pinR,isVarB,pin_pins,  hw]
   · have htl:l.take i=l:=List.take_of_length_le (by omega)
     have hs:(bt (p++numsT (l.take i))).size+(bt [10]).size≤9223372036854775807:=by rw[size_bt,size_bt];simp;simp at hti;omega
     rw[htl] at hs
     simp (maxSteps:=2000000) only[↓awA,awB,evA,envE,ofV,putE,listH,setRow,spl,oneP,guardB,frzA,mapO,allSc,closeA,shiftA,shiftR,flatA,flat0,scA,Row.len,fillW,rep,chunks,closed1,Value.oneCell',Nat.reduceAdd,reduceIte,reduceCtorEq,Nat.reduceLT,Nat.reduceLeDiff,Nat.reduceEqDiff,Nat.reduceSub,Nat.reduceMul,frz1,frzR,eq_self,and_self,tys,  hlt,htl,h10,hs,app,hR]
 · have e8:(⟨#[114,101,115,116]⟩:ByteArray)=bt (Rc.opW 12):=rfl
   have c8:(((12:Nat):Int)==8)=false:=rfl
   have c7:decide (((12:Nat):Int)≤7)=false:=rfl
   have c13:(((12:Nat):Int)==13)=false:=rfl
   have hpl:(Rc.opW 12).length≤1000:=by decide
   simp (maxSteps:=2000000) only[↓awA,awB,evA,envE,ofV,putE,listH,setRow,spl,oneP,guardB,frzA,mapO,allSc,closeA,shiftA,shiftR,flatA,flat0,scA,Row.len,fillW,rep,chunks,closed1,Value.oneCell',Nat.reduceAdd,reduceIte,reduceCtorEq,Nat.reduceLT,Nat.reduceLeDiff,Nat.reduceEqDiff,Nat.reduceSub,Nat.reduceMul,frz1,frzR,eq_self,and_self,tys,  at_,c8,c7,c13,eI,spN3_lit,e8,hR]
   obtain⟨p,hp⟩:∃p,p=Rc.opW 12:=⟨_,rfl⟩
   rw[←hp] at hpl⊢
   refine aw_loop (fun i:Nat=>[.dead,.ptr 0 0,.dead,.sc (.string (bt (p++numsT (l.take i)))),.sc (.int .i64 (i:Int))]++deads 70) (fun _=>[.var [.sc (.int .u8 ((12:Nat):Int)),.sc (.int .i64 0),.sc (.string (bt [])),.sc (.int .i64 0),.ro (l.map eI)] 49])
    (fun i=>i≤l.length) (fun i=>l.length - i) 0 ?_ (Nat.zero_le _) ?_ (fun _ _=>by rw[show spN3.pins=0 from rfl];trivial)
   · simp[Weak,weakL,weakR,weakV,nilV,nilR,okA,listH,deads,pinR,isVarB,pin_pins,  numsT]
   intro i hi
   simp only[deads,List.replicate_succ,List.replicate_zero,List.cons_append,List.nil_append]
   have hti:(p++numsT (l.take i)).length≤1000+22*1000000:=by
    have:=numsT_len (l:=l.take i) (fun n hn=>hfl n (List.mem_of_mem_take hn))
    rw[List.length_take] at this
    rw[List.length_append]
    omega
   by_cases hlt:i<l.length
   · obtain⟨x,hx⟩:∃x,l[i]? =some x:=⟨_,List.getElem?_eq_getElem hlt⟩
     have e2:at_ (l.map eI) i=eI x:=at_some hx
     have hxi:=hfl x (List.mem_of_getElem? hx)
     have hxl:=itoa_len hxi.1 hxi.2
     have hw:=wr_lt hlt (by omega)
     have hs:(bt (p++numsT (l.take i))).size+(bt (32::itoa x)).size≤9223372036854775807:=by rw[size_bt,size_bt,List.length_cons];omega
     have hnx:p++numsT (l.take i)++(32::itoa x)=p++numsT (l.take (i+1)):=by
      rw[take_at hx]
      unfold numsT
      rw[List.map_append,List.flatten_append]
      simp
     simp (maxSteps:=2000000) only[↓awA,awB,evA,envE,ofV,putE,listH,setRow,spl,oneP,guardB,frzA,mapO,allSc,closeA,shiftA,shiftR,flatA,flat0,scA,Row.len,fillW,rep,chunks,closed1,Value.oneCell',Nat.reduceAdd,reduceIte,reduceCtorEq,Nat.reduceLT,Nat.reduceLeDiff,Nat.reduceEqDiff,Nat.reduceSub,Nat.reduceMul,frz1,frzR,eq_self,and_self,tys,  hlt,e2,eI,spN3_num,hxi,hs,app,hnx]
     refine loopQ_next (i+1) ?_ hlt (by omega)
     simp[Weak,weakL,weakR,weakV,nilV,nilR,okA,listH,deads,pinR,isVarB,pin_pins,  hw]
   · have htl:l.take i=l:=List.take_of_length_le (by omega)
     have hs:(bt (p++numsT (l.take i))).size+(bt [10]).size≤9223372036854775807:=by rw[size_bt,size_bt];simp;simp at hti;omega
     rw[htl] at hs
     simp (maxSteps:=2000000) only[↓awA,awB,evA,envE,ofV,putE,listH,setRow,spl,oneP,guardB,frzA,mapO,allSc,closeA,shiftA,shiftR,flatA,flat0,scA,Row.len,fillW,rep,chunks,closed1,Value.oneCell',Nat.reduceAdd,reduceIte,reduceCtorEq,Nat.reduceLT,Nat.reduceLeDiff,Nat.reduceEqDiff,Nat.reduceSub,Nat.reduceMul,frz1,frzR,eq_self,and_self,tys,  hlt,htl,h10,hs,app,hR]
theorem line31_con (r:RecM) (hm:May nmB r) (h64:In64 r) (hl:r.list.length≤1000000) (hn:r.name.length≤1000000) (w:World):ConAt Tryz.prog w 19 (eR r) (.sc (.string (bt (textM r++[10])))) []:=by
 have hR:=Tryz.results19
 have hz2:(0:Int)≤0:=Int.le_refl 0
 have hz:Int.toNat 0=0:=rfl
 have h1s:(⟨#[32]⟩:ByteArray)=bt [32]:=rfl
 have h10:(⟨#[10]⟩:ByteArray)=bt [10]:=rfl
 have app:∀x y:T,bt x++bt y=bt (x++y):=bt_app
 cases hm with
 |call n a hnm=>
  have ha:In1 a:=h64.a
  have hlen:=itoa_len ha.1 ha.2
  simp only at hn
  unfold eR cR
  refine con_of_aw (sp:=spN3) (Φ:=fun _=>True) [] (fun w _=>spN3_ok w) (by kernel_rfl) Tryz.func19 rfl ?_ w trivial
  intro hLen
  simp only[Tryz.ntmps19,List.length_cons,List.length_nil,Nat.reduceAdd,Nat.reduceSub,List.replicate_succ,List.replicate_zero,List.cons_append,List.nil_append]
  have ht:textM ⟨8,0,n,a,[2]⟩=Rc.opW 8++([32]++(kindW 2++([32]++(n++([32]++itoa a))))):=by
   have hne:n≠[]:=nmOk.ne n hnm
   unfold textM wordsM
   simp only[if_true,List.getD_cons_zero]
   rw[if_pos hne,join_cons]
   simp[joinTail]
  rw[ht]
  have e8:(⟨#[101,118,101,110,116]⟩:ByteArray)=bt (Rc.opW 8):=rfl
  have ek:(⟨#[99,97,108,108]⟩:ByteArray)=bt (kindW 2):=rfl
  have s1:(bt (Rc.opW 8)).size+(bt [32]).size≤9223372036854775807:=by decide
  have s2:(bt (Rc.opW 8++[32])).size+(bt (kindW 2)).size≤9223372036854775807:=by decide
  have s3:(bt (Rc.opW 8++[32]++kindW 2)).size+(bt [32]).size≤9223372036854775807:=by decide
  have k10:(Rc.opW 8++[32]++kindW 2++[32]).length=11:=by decide
  have s4:(bt (Rc.opW 8++[32]++kindW 2++[32])).size+(bt n).size≤9223372036854775807:=by rw[size_bt,size_bt,k10];omega
  have s5:(bt (Rc.opW 8++[32]++kindW 2++[32]++n)).size+(bt [32]).size≤9223372036854775807:=by rw[size_bt,size_bt,List.length_append,k10];simp;omega
  have s6:(bt (Rc.opW 8++[32]++kindW 2++[32]++n++[32])).size+(bt (itoa a)).size≤9223372036854775807:=by rw[size_bt,size_bt,List.length_append,List.length_append,k10];simp;omega
  have s7:(bt (Rc.opW 8++[32]++kindW 2++[32]++n++[32]++itoa a)).size+(bt [10]).size≤9223372036854775807:=by rw[size_bt,size_bt,List.length_append,List.length_append,List.length_append,k10];simp;omega
  have hx:Int.toNat 2=2:=rfl
  have hx2:(0:Int)≤2:=by decide
  have c8:(((8:Nat):Int)==8)=true:=rfl
  have c2:((2:Int)==2)=true:=rfl
  simp (maxSteps:=2000000) only[↓awA,awB,evA,envE,ofV,putE,listH,setRow,spl,oneP,guardB,frzA,mapO,allSc,closeA,shiftA,shiftR,flatA,flat0,scA,Row.len,fillW,rep,chunks,closed1,Value.oneCell',Nat.reduceAdd,reduceIte,reduceCtorEq,Nat.reduceLT,Nat.reduceLeDiff,Nat.reduceEqDiff,Nat.reduceSub,Nat.reduceMul,frz1,frzR,eq_self,and_self,tys,  at_,c8,c2,eI,hz,hz2,hx,hx2,spN3_lit,e8,ek,h1s,h10,app,s1,s2,s3,s4,s5,s6,s7,spN3_put,ha,hR]
  refine⟨by decide,by decide,by decide,Dr_of (by kernel_rfl), ?_⟩
  simp
 |event k a hk hpl=>
  have ha:In1 a:=place_fit hpl
  have hlen:=itoa_len ha.1 ha.2
  unfold eR cR
  refine con_of_aw (sp:=spN3) (Φ:=fun _=>True) [] (fun w _=>spN3_ok w) (by kernel_rfl) Tryz.func19 rfl ?_ w trivial
  intro hLen
  simp only[Tryz.ntmps19,List.length_cons,List.length_nil,Nat.reduceAdd,Nat.reduceSub,List.replicate_succ,List.replicate_zero,List.cons_append,List.nil_append]
  have ht:textM ⟨8,a,[],0,[k]⟩=Rc.opW 8++([32]++(kindW k++(32::itoa a))):=by
   unfold textM wordsM
   simp only[if_true,List.getD_cons_zero]
   rw[if_neg (show ¬(([]:T)≠[]) by simp),join_cons]
   simp[joinTail]
  rw[ht]
  have e8:(⟨#[101,118,101,110,116]⟩:ByteArray)=bt (Rc.opW 8):=rfl
  have s1:(bt (Rc.opW 8)).size+(bt [32]).size≤9223372036854775807:=by decide
  have c8:(((8:Nat):Int)==8)=true:=rfl
  rcases hk with rfl|rfl
  · have ek:(⟨#[100,111,110,101]⟩:ByteArray)=bt (kindW 1):=rfl
    have s2:(bt (Rc.opW 8++[32])).size+(bt (kindW 1)).size≤9223372036854775807:=by decide
    have k10:(Rc.opW 8++[32]++kindW 1).length=10:=by decide
    have s4:(bt (Rc.opW 8++[32]++kindW 1)).size+(bt (32::itoa a)).size≤9223372036854775807:=by rw[size_bt,size_bt,k10,List.length_cons];omega
    have s5:(bt (Rc.opW 8++[32]++kindW 1++(32::itoa a))).size+(bt [10]).size≤9223372036854775807:=by rw[size_bt,size_bt,List.length_append,k10];simp;omega
    have hx:Int.toNat 1=1:=rfl
    have hx2:(0:Int)≤1:=by decide
    have c2:((1:Int)==2)=false:=rfl
    simp (maxSteps:=2000000) only[↓awA,awB,evA,envE,ofV,putE,listH,setRow,spl,oneP,guardB,frzA,mapO,allSc,closeA,shiftA,shiftR,flatA,flat0,scA,Row.len,fillW,rep,chunks,closed1,Value.oneCell',Nat.reduceAdd,reduceIte,reduceCtorEq,Nat.reduceLT,Nat.reduceLeDiff,Nat.reduceEqDiff,Nat.reduceSub,Nat.reduceMul,frz1,frzR,eq_self,and_self,tys,  at_,c8,c2,eI,hz,hz2,hx,hx2,spN3_lit,e8,ek,h1s,h10,app,s1,s2,s4,s5,spN3_num,ha,hR]
    refine⟨by decide,by decide,by decide, ?_⟩
    simp
  · have ek:(⟨#[116,105,109,101]⟩:ByteArray)=bt (kindW 3):=rfl
    have s2:(bt (Rc.opW 8++[32])).size+(bt (kindW 3)).size≤9223372036854775807:=by decide
    have k10:(Rc.opW 8++[32]++kindW 3).length=10:=by decide
    have s4:(bt (Rc.opW 8++[32]++kindW 3)).size+(bt (32::itoa a)).size≤9223372036854775807:=by rw[size_bt,size_bt,k10,List.length_cons];omega
    have s5:(bt (Rc.opW 8++[32]++kindW 3++(32::itoa a))).size+(bt [10]).size≤9223372036854775807:=by rw[size_bt,size_bt,List.length_append,k10];simp;omega
    have hx:Int.toNat 3=3:=rfl
    have hx2:(0:Int)≤3:=by decide
    have c2:((3:Int)==2)=false:=rfl
    simp (maxSteps:=2000000) only[↓awA,awB,evA,envE,ofV,putE,listH,setRow,spl,oneP,guardB,frzA,mapO,allSc,closeA,shiftA,shiftR,flatA,flat0,scA,Row.len,fillW,rep,chunks,closed1,Value.oneCell',Nat.reduceAdd,reduceIte,reduceCtorEq,Nat.reduceLT,Nat.reduceLeDiff,Nat.reduceEqDiff,Nat.reduceSub,Nat.reduceMul,frz1,frzR,eq_self,and_self,tys,  at_,c8,c2,eI,hz,hz2,hx,hx2,spN3_lit,e8,ek,h1s,h10,app,s1,s2,s4,s5,spN3_num,ha,hR]
    refine⟨by decide,by decide,by decide, ?_⟩
    simp
 |plain o a l ho hf=>
  have ha:In1 a:=hf a List.mem_cons_self
  have hfl:∀n∈l,In1 n:=fun n hn=>hf n (List.mem_cons_of_mem _ hn)
  have hlen:=itoa_len ha.1 ha.2
  simp only at hl
  have htx:∀o:Nat,o=3∨o=4∨o=5∨o=6∨o=7∨o=13→textM ⟨o,a,[],0,l⟩=(Rc.opW o++(32::itoa a))++numsT l:=fun o ho=>by
   unfold textM wordsM
   simp only
   rw[if_neg (by omega),if_neg (by omega),if_neg (by omega),join_cons,←tail_nums]
   simp[joinTail]
  have ht:=htx o ho
  unfold eR cR
  refine con_of_aw (sp:=spN3) (Φ:=fun _=>True) [] (fun w _=>spN3_ok w) (by kernel_rfl) Tryz.func19 rfl ?_ w trivial
  intro hLen
  simp only[Tryz.ntmps19,List.length_cons,List.length_nil,Nat.reduceAdd,Nat.reduceSub,List.replicate_succ,List.replicate_zero,List.cons_append,List.nil_append]
  rw[ht]
  rcases ho with rfl|rfl|rfl|rfl|rfl|rfl
  · have e8:(⟨#[101,120,105,116]⟩:ByteArray)=bt (Rc.opW 3):=rfl
    have c8:(((3:Nat):Int)==8)=false:=rfl
    have c7:decide (((3:Nat):Int)≤7)=true:=rfl
    have c13:(((3:Nat):Int)==13)=false:=rfl
    have k10:(Rc.opW 3).length=4:=by decide
    have s1:(bt (Rc.opW 3)).size+(bt (32::itoa a)).size≤9223372036854775807:=by rw[size_bt,size_bt,k10,List.length_cons];omega
    have hpl:(Rc.opW 3++(32::itoa a)).length≤1000:=by rw[List.length_append,k10,List.length_cons];omega
    simp (maxSteps:=2000000) only[↓awA,awB,evA,envE,ofV,putE,listH,setRow,spl,oneP,guardB,frzA,mapO,allSc,closeA,shiftA,shiftR,flatA,flat0,scA,Row.len,fillW,rep,chunks,closed1,Value.oneCell',Nat.reduceAdd,reduceIte,reduceCtorEq,Nat.reduceLT,Nat.reduceLeDiff,Nat.reduceEqDiff,Nat.reduceSub,Nat.reduceMul,frz1,frzR,eq_self,and_self,tys,  at_,c8,c7,c13,eI,spN3_lit,e8,app,s1,spN3_num,ha,hR]
    obtain⟨p,hp⟩:∃p,p=Rc.opW 3++(32::itoa a):=⟨_,rfl⟩
    rw[←hp] at hpl⊢
    refine aw_loop (fun i:Nat=>[.dead,.ptr 0 0,.dead,.sc (.string (bt (p++numsT (l.take i)))),.sc (.int .i64 (i:Int))]++deads 70) (fun _=>[.var [.sc (.int .u8 ((3:Nat):Int)),.sc (.int .i64 a),.sc (.string (bt [])),.sc (.int .i64 0),.ro (l.map eI)] 49])
     (fun i=>i≤l.length) (fun i=>l.length - i) 0 ?_ (Nat.zero_le _) ?_ (fun _ _=>by rw[show spN3.pins=0 from rfl];trivial)
    · simp[Weak,weakL,weakR,weakV,nilV,nilR,okA,listH,deads,pinR,isVarB,pin_pins,  numsT]
    intro i hi
    simp only[deads,List.replicate_succ,List.replicate_zero,List.cons_append,List.nil_append]
    have hti:(p++numsT (l.take i)).length≤1000+22*1000000:=by
     have:=numsT_len (l:=l.take i) (fun n hn=>hfl n (List.mem_of_mem_take hn))
     rw[List.length_take] at this
     rw[List.length_append]
     omega
    by_cases hlt:i<l.length
    · obtain⟨x,hx⟩:∃x,l[i]? =some x:=⟨_,List.getElem?_eq_getElem hlt⟩
      have e2:at_ (l.map eI) i=eI x:=at_some hx
      have hxi:=hfl x (List.mem_of_getElem? hx)
      have hxl:=itoa_len hxi.1 hxi.2
      have hw:=wr_lt hlt (by omega)
      have hs:(bt (p++numsT (l.take i))).size+(bt (32::itoa x)).size≤9223372036854775807:=by rw[size_bt,size_bt,List.length_cons];omega
      have hnx:p++numsT (l.take i)++(32::itoa x)=p++numsT (l.take (i+1)):=by
       rw[take_at hx]
       unfold numsT
       rw[List.map_append,List.flatten_append]
       simp
      simp (maxSteps:=2000000) only[↓awA,awB,evA,envE,ofV,putE,listH,setRow,spl,oneP,guardB,frzA,mapO,allSc,closeA,shiftA,shiftR,flatA,flat0,scA,Row.len,fillW,rep,chunks,closed1,Value.oneCell',Nat.reduceAdd,reduceIte,reduceCtorEq,Nat.reduceLT,Nat.reduceLeDiff,Nat.reduceEqDiff,Nat.reduceSub,Nat.reduceMul,frz1,frzR,eq_self,and_self,tys,  hlt,e2,eI,spN3_num,hxi,hs,app,hnx]
      refine loopQ_next (i+1) ?_ hlt (by omega)
      simp[Weak,weakL,weakR,weakV,nilV,nilR,okA,listH,deads,pinR,isVarB,pin_pins,  hw]
    · have htl:l.take i=l:=List.take_of_length_le (by omega)
      have hs:(bt (p++numsT (l.take i))).size+(bt [10]).size≤9223372036854775807:=by rw[size_bt,size_bt];simp;simp at hti;omega
      rw[htl] at hs
      simp (maxSteps:=2000000) only[↓awA,awB,evA,envE,ofV,putE,listH,setRow,spl,oneP,guardB,frzA,mapO,allSc,closeA,shiftA,shiftR,flatA,flat0,scA,Row.len,fillW,rep,chunks,closed1,Value.oneCell',Nat.reduceAdd,reduceIte,reduceCtorEq,Nat.reduceLT,Nat.reduceLeDiff,Nat.reduceEqDiff,Nat.reduceSub,Nat.reduceMul,frz1,frzR,eq_self,and_self,tys,  hlt,htl,h10,hs,app,hR]
  · have e8:(⟨#[101,102,102,101,99,116]⟩:ByteArray)=bt (Rc.opW 4):=rfl
    have c8:(((4:Nat):Int)==8)=false:=rfl
    have c7:decide (((4:Nat):Int)≤7)=true:=rfl
    have c13:(((4:Nat):Int)==13)=false:=rfl
    have k10:(Rc.opW 4).length=6:=by decide
    have s1:(bt (Rc.opW 4)).size+(bt (32::itoa a)).size≤9223372036854775807:=by rw[size_bt,size_bt,k10,List.length_cons];omega
    have hpl:(Rc.opW 4++(32::itoa a)).length≤1000:=by rw[List.length_append,k10,List.length_cons];omega
    simp (maxSteps:=2000000) only[↓awA,awB,evA,envE,ofV,putE,listH,setRow,spl,oneP,guardB,frzA,mapO,allSc,closeA,shiftA,shiftR,flatA,flat0,scA,Row.len,fillW,rep,chunks,closed1,Value.oneCell',Nat.reduceAdd,reduceIte,reduceCtorEq,Nat.reduceLT,Nat.reduceLeDiff,Nat.reduceEqDiff,Nat.reduceSub,Nat.reduceMul,frz1,frzR,eq_self,and_self,tys,  at_,c8,c7,c13,eI,spN3_lit,e8,app,s1,spN3_num,ha,hR]
    obtain⟨p,hp⟩:∃p,p=Rc.opW 4++(32::itoa a):=⟨_,rfl⟩
    rw[←hp] at hpl⊢
    refine aw_loop (fun i:Nat=>[.dead,.ptr 0 0,.dead,.sc (.string (bt (p++numsT (l.take i)))),.sc (.int .i64 (i:Int))]++deads 70) (fun _=>[.var [.sc (.int .u8 ((4:Nat):Int)),.sc (.int .i64 a),.sc (.string (bt [])),.sc (.int .i64 0),.ro (l.map eI)] 49])
     (fun i=>i≤l.length) (fun i=>l.length - i) 0 ?_ (Nat.zero_le _) ?_ (fun _ _=>by rw[show spN3.pins=0 from rfl];trivial)
    · simp[Weak,weakL,weakR,weakV,nilV,nilR,okA,listH,deads,pinR,isVarB,pin_pins,  numsT]
    intro i hi
    simp only[deads,List.replicate_succ,List.replicate_zero,List.cons_append,List.nil_append]
    have hti:(p++numsT (l.take i)).length≤1000+22*1000000:=by
     have:=numsT_len (l:=l.take i) (fun n hn=>hfl n (List.mem_of_mem_take hn))
     rw[List.length_take] at this
     rw[List.length_append]
     omega
    by_cases hlt:i<l.length
    · obtain⟨x,hx⟩:∃x,l[i]? =some x:=⟨_,List.getElem?_eq_getElem hlt⟩
      have e2:at_ (l.map eI) i=eI x:=at_some hx
      have hxi:=hfl x (List.mem_of_getElem? hx)
      have hxl:=itoa_len hxi.1 hxi.2
      have hw:=wr_lt hlt (by omega)
      have hs:(bt (p++numsT (l.take i))).size+(bt (32::itoa x)).size≤9223372036854775807:=by rw[size_bt,size_bt,List.length_cons];omega
      have hnx:p++numsT (l.take i)++(32::itoa x)=p++numsT (l.take (i+1)):=by
       rw[take_at hx]
       unfold numsT
       rw[List.map_append,List.flatten_append]
       simp
      simp (maxSteps:=2000000) only[↓awA,awB,evA,envE,ofV,putE,listH,setRow,spl,oneP,guardB,frzA,mapO,allSc,closeA,shiftA,shiftR,flatA,flat0,scA,Row.len,fillW,rep,chunks,closed1,Value.oneCell',Nat.reduceAdd,reduceIte,reduceCtorEq,Nat.reduceLT,Nat.reduceLeDiff,Nat.reduceEqDiff,Nat.reduceSub,Nat.reduceMul,frz1,frzR,eq_self,and_self,tys,  hlt,e2,eI,spN3_num,hxi,hs,app,hnx]
      refine loopQ_next (i+1) ?_ hlt (by omega)
      simp[Weak,weakL,weakR,weakV,nilV,nilR,okA,listH,deads,pinR,isVarB,pin_pins,  hw]
    · have htl:l.take i=l:=List.take_of_length_le (by omega)
      have hs:(bt (p++numsT (l.take i))).size+(bt [10]).size≤9223372036854775807:=by rw[size_bt,size_bt];simp;simp at hti;omega
      rw[htl] at hs
      simp (maxSteps:=2000000) only[↓awA,awB,evA,envE,ofV,putE,listH,setRow,spl,oneP,guardB,frzA,mapO,allSc,closeA,shiftA,shiftR,flatA,flat0,scA,Row.len,fillW,rep,chunks,closed1,Value.oneCell',Nat.reduceAdd,reduceIte,reduceCtorEq,Nat.reduceLT,Nat.reduceLeDiff,Nat.reduceEqDiff,Nat.reduceSub,Nat.reduceMul,frz1,frzR,eq_self,and_self,tys,  hlt,htl,h10,hs,app,hR]
  · have e8:(⟨#[101,110,116,101,114]⟩:ByteArray)=bt (Rc.opW 5):=rfl
    have c8:(((5:Nat):Int)==8)=false:=rfl
    have c7:decide (((5:Nat):Int)≤7)=true:=rfl
    have c13:(((5:Nat):Int)==13)=false:=rfl
    have k10:(Rc.opW 5).length=5:=by decide
    have s1:(bt (Rc.opW 5)).size+(bt (32::itoa a)).size≤9223372036854775807:=by rw[size_bt,size_bt,k10,List.length_cons];omega
    have hpl:(Rc.opW 5++(32::itoa a)).length≤1000:=by rw[List.length_append,k10,List.length_cons];omega
    simp (maxSteps:=2000000) only[↓awA,awB,evA,envE,ofV,putE,listH,setRow,spl,oneP,guardB,frzA,mapO,allSc,closeA,shiftA,shiftR,flatA,flat0,scA,Row.len,fillW,rep,chunks,closed1,Value.oneCell',Nat.reduceAdd,reduceIte,reduceCtorEq,Nat.reduceLT,Nat.reduceLeDiff,Nat.reduceEqDiff,Nat.reduceSub,Nat.reduceMul,frz1,frzR,eq_self,and_self,tys,  at_,c8,c7,c13,eI,spN3_lit,e8,app,s1,spN3_num,ha,hR]
    obtain⟨p,hp⟩:∃p,p=Rc.opW 5++(32::itoa a):=⟨_,rfl⟩
    rw[←hp] at hpl⊢
    refine aw_loop (fun i:Nat=>[.dead,.ptr 0 0,.dead,.sc (.string (bt (p++numsT (l.take i)))),.sc (.int .i64 (i:Int))]++deads 70) (fun _=>[.var [.sc (.int .u8 ((5:Nat):Int)),.sc (.int .i64 a),.sc (.string (bt [])),.sc (.int .i64 0),.ro (l.map eI)] 49])
     (fun i=>i≤l.length) (fun i=>l.length - i) 0 ?_ (Nat.zero_le _) ?_ (fun _ _=>by rw[show spN3.pins=0 from rfl];trivial)
    · simp[Weak,weakL,weakR,weakV,nilV,nilR,okA,listH,deads,pinR,isVarB,pin_pins,  numsT]
    intro i hi
    simp only[deads,List.replicate_succ,List.replicate_zero,List.cons_append,List.nil_append]
    have hti:(p++numsT (l.take i)).length≤1000+22*1000000:=by
     have:=numsT_len (l:=l.take i) (fun n hn=>hfl n (List.mem_of_mem_take hn))
     rw[List.length_take] at this
     rw[List.length_append]
     omega
    by_cases hlt:i<l.length
    · obtain⟨x,hx⟩:∃x,l[i]? =some x:=⟨_,List.getElem?_eq_getElem hlt⟩
      have e2:at_ (l.map eI) i=eI x:=at_some hx
      have hxi:=hfl x (List.mem_of_getElem? hx)
      have hxl:=itoa_len hxi.1 hxi.2
      have hw:=wr_lt hlt (by omega)
      have hs:(bt (p++numsT (l.take i))).size+(bt (32::itoa x)).size≤9223372036854775807:=by rw[size_bt,size_bt,List.length_cons];omega
      have hnx:p++numsT (l.take i)++(32::itoa x)=p++numsT (l.take (i+1)):=by
       rw[take_at hx]
       unfold numsT
       rw[List.map_append,List.flatten_append]
       simp
      simp (maxSteps:=2000000) only[↓awA,awB,evA,envE,ofV,putE,listH,setRow,spl,oneP,guardB,frzA,mapO,allSc,closeA,shiftA,shiftR,flatA,flat0,scA,Row.len,fillW,rep,chunks,closed1,Value.oneCell',Nat.reduceAdd,reduceIte,reduceCtorEq,Nat.reduceLT,Nat.reduceLeDiff,Nat.reduceEqDiff,Nat.reduceSub,Nat.reduceMul,frz1,frzR,eq_self,and_self,tys,  hlt,e2,eI,spN3_num,hxi,hs,app,hnx]
      refine loopQ_next (i+1) ?_ hlt (by omega)
      simp[Weak,weakL,weakR,weakV,nilV,nilR,okA,listH,deads,pinR,isVarB,pin_pins,  hw]
    · have htl:l.take i=l:=List.take_of_length_le (by omega)
      have hs:(bt (p++numsT (l.take i))).size+(bt [10]).size≤9223372036854775807:=by rw[size_bt,size_bt];simp;simp at hti;omega
      rw[htl] at hs
      simp (maxSteps:=2000000) only[↓awA,awB,evA,envE,ofV,putE,listH,setRow,spl,oneP,guardB,frzA,mapO,allSc,closeA,shiftA,shiftR,flatA,flat0,scA,Row.len,fillW,rep,chunks,closed1,Value.oneCell',Nat.reduceAdd,reduceIte,reduceCtorEq,Nat.reduceLT,Nat.reduceLeDiff,Nat.reduceEqDiff,Nat.reduceSub,Nat.reduceMul,frz1,frzR,eq_self,and_self,tys,  hlt,htl,h10,hs,app,hR]
  · have e8:(⟨#[108,111,111,107]⟩:ByteArray)=bt (Rc.opW 6):=rfl
    have c8:(((6:Nat):Int)==8)=false:=rfl
    have c7:decide (((6:Nat):Int)≤7)=true:=rfl
    have c13:(((6:Nat):Int)==13)=false:=rfl
    have k10:(Rc.opW 6).length=4:=by decide
    have s1:(bt (Rc.opW 6)).size+(bt (32::itoa a)).size≤9223372036854775807:=by rw[size_bt,size_bt,k10,List.length_cons];omega
    have hpl:(Rc.opW 6++(32::itoa a)).length≤1000:=by rw[List.length_append,k10,List.length_cons];omega
    simp (maxSteps:=2000000) only[↓awA,awB,evA,envE,ofV,putE,listH,setRow,spl,oneP,guardB,frzA,mapO,allSc,closeA,shiftA,shiftR,flatA,flat0,scA,Row.len,fillW,rep,chunks,closed1,Value.oneCell',Nat.reduceAdd,reduceIte,reduceCtorEq,Nat.reduceLT,Nat.reduceLeDiff,Nat.reduceEqDiff,Nat.reduceSub,Nat.reduceMul,frz1,frzR,eq_self,and_self,tys,  at_,c8,c7,c13,eI,spN3_lit,e8,app,s1,spN3_num,ha,hR]
    obtain⟨p,hp⟩:∃p,p=Rc.opW 6++(32::itoa a):=⟨_,rfl⟩
    rw[←hp] at hpl⊢
    refine aw_loop (fun i:Nat=>[.dead,.ptr 0 0,.dead,.sc (.string (bt (p++numsT (l.take i)))),.sc (.int .i64 (i:Int))]++deads 70) (fun _=>[.var [.sc (.int .u8 ((6:Nat):Int)),.sc (.int .i64 a),.sc (.string (bt [])),.sc (.int .i64 0),.ro (l.map eI)] 49])
     (fun i=>i≤l.length) (fun i=>l.length - i) 0 ?_ (Nat.zero_le _) ?_ (fun _ _=>by rw[show spN3.pins=0 from rfl];trivial)
    · simp[Weak,weakL,weakR,weakV,nilV,nilR,okA,listH,deads,pinR,isVarB,pin_pins,  numsT]
    intro i hi
    simp only[deads,List.replicate_succ,List.replicate_zero,List.cons_append,List.nil_append]
    have hti:(p++numsT (l.take i)).length≤1000+22*1000000:=by
     have:=numsT_len (l:=l.take i) (fun n hn=>hfl n (List.mem_of_mem_take hn))
     rw[List.length_take] at this
     rw[List.length_append]
     omega
    by_cases hlt:i<l.length
    · obtain⟨x,hx⟩:∃x,l[i]? =some x:=⟨_,List.getElem?_eq_getElem hlt⟩
      have e2:at_ (l.map eI) i=eI x:=at_some hx
      have hxi:=hfl x (List.mem_of_getElem? hx)
      have hxl:=itoa_len hxi.1 hxi.2
      have hw:=wr_lt hlt (by omega)
      have hs:(bt (p++numsT (l.take i))).size+(bt (32::itoa x)).size≤9223372036854775807:=by rw[size_bt,size_bt,List.length_cons];omega
      have hnx:p++numsT (l.take i)++(32::itoa x)=p++numsT (l.take (i+1)):=by
       rw[take_at hx]
       unfold numsT
       rw[List.map_append,List.flatten_append]
       simp
      simp (maxSteps:=2000000) only[↓awA,awB,evA,envE,ofV,putE,listH,setRow,spl,oneP,guardB,frzA,mapO,allSc,closeA,shiftA,shiftR,flatA,flat0,scA,Row.len,fillW,rep,chunks,closed1,Value.oneCell',Nat.reduceAdd,reduceIte,reduceCtorEq,Nat.reduceLT,Nat.reduceLeDiff,Nat.reduceEqDiff,Nat.reduceSub,Nat.reduceMul,frz1,frzR,eq_self,and_self,tys,  hlt,e2,eI,spN3_num,hxi,hs,app,hnx]
      refine loopQ_next (i+1) ?_ hlt (by omega)
      simp[Weak,weakL,weakR,weakV,nilV,nilR,okA,listH,deads,pinR,isVarB,pin_pins,  hw]
    · have htl:l.take i=l:=List.take_of_length_le (by omega)
      have hs:(bt (p++numsT (l.take i))).size+(bt [10]).size≤9223372036854775807:=by rw[size_bt,size_bt];simp;simp at hti;omega
      rw[htl] at hs
      simp (maxSteps:=2000000) only[↓awA,awB,evA,envE,ofV,putE,listH,setRow,spl,oneP,guardB,frzA,mapO,allSc,closeA,shiftA,shiftR,flatA,flat0,scA,Row.len,fillW,rep,chunks,closed1,Value.oneCell',Nat.reduceAdd,reduceIte,reduceCtorEq,Nat.reduceLT,Nat.reduceLeDiff,Nat.reduceEqDiff,Nat.reduceSub,Nat.reduceMul,frz1,frzR,eq_self,and_self,tys,  hlt,htl,h10,hs,app,hR]
  · have e8:(⟨#[111,118,101,114]⟩:ByteArray)=bt (Rc.opW 7):=rfl
    have c8:(((7:Nat):Int)==8)=false:=rfl
    have c7:decide (((7:Nat):Int)≤7)=true:=rfl
    have c13:(((7:Nat):Int)==13)=false:=rfl
    have k10:(Rc.opW 7).length=4:=by decide
    have s1:(bt (Rc.opW 7)).size+(bt (32::itoa a)).size≤9223372036854775807:=by rw[size_bt,size_bt,k10,List.length_cons];omega
    have hpl:(Rc.opW 7++(32::itoa a)).length≤1000:=by rw[List.length_append,k10,List.length_cons];omega
    simp (maxSteps:=2000000) only[↓awA,awB,evA,envE,ofV,putE,listH,setRow,spl,oneP,guardB,frzA,mapO,allSc,closeA,shiftA,shiftR,flatA,flat0,scA,Row.len,fillW,rep,chunks,closed1,Value.oneCell',Nat.reduceAdd,reduceIte,reduceCtorEq,Nat.reduceLT,Nat.reduceLeDiff,Nat.reduceEqDiff,Nat.reduceSub,Nat.reduceMul,frz1,frzR,eq_self,and_self,tys,  at_,c8,c7,c13,eI,spN3_lit,e8,app,s1,spN3_num,ha,hR]
    obtain⟨p,hp⟩:∃p,p=Rc.opW 7++(32::itoa a):=⟨_,rfl⟩
    rw[←hp] at hpl⊢
    refine aw_loop (fun i:Nat=>[.dead,.ptr 0 0,.dead,.sc (.string (bt (p++numsT (l.take i)))),.sc (.int .i64 (i:Int))]++deads 70) (fun _=>[.var [.sc (.int .u8 ((7:Nat):Int)),.sc (.int .i64 a),.sc (.string (bt [])),.sc (.int .i64 0),.ro (l.map eI)] 49])
     (fun i=>i≤l.length) (fun i=>l.length - i) 0 ?_ (Nat.zero_le _) ?_ (fun _ _=>by rw[show spN3.pins=0 from rfl];trivial)
    · simp[Weak,weakL,weakR,weakV,nilV,nilR,okA,listH,deads,pinR,isVarB,pin_pins,  numsT]
    intro i hi
    simp only[deads,List.replicate_succ,List.replicate_zero,List.cons_append,List.nil_append]
    have hti:(p++numsT (l.take i)).length≤1000+22*1000000:=by
     have:=numsT_len (l:=l.take i) (fun n hn=>hfl n (List.mem_of_mem_take hn))
     rw[List.length_take] at this
     rw[List.length_append]
     omega
    by_cases hlt:i<l.length
    · obtain⟨x,hx⟩:∃x,l[i]? =some x:=⟨_,List.getElem?_eq_getElem hlt⟩
      have e2:at_ (l.map eI) i=eI x:=at_some hx
      have hxi:=hfl x (List.mem_of_getElem? hx)
      have hxl:=itoa_len hxi.1 hxi.2
      have hw:=wr_lt hlt (by omega)
      have hs:(bt (p++numsT (l.take i))).size+(bt (32::itoa x)).size≤9223372036854775807:=by rw[size_bt,size_bt,List.length_cons];omega
      have hnx:p++numsT (l.take i)++(32::itoa x)=p++numsT (l.take (i+1)):=by
       rw[take_at hx]
       unfold numsT
       rw[List.map_append,List.flatten_append]
       simp
      simp (maxSteps:=2000000) only[↓awA,awB,evA,envE,ofV,putE,listH,setRow,spl,oneP,guardB,frzA,mapO,allSc,closeA,shiftA,shiftR,flatA,flat0,scA,Row.len,fillW,rep,chunks,closed1,Value.oneCell',Nat.reduceAdd,reduceIte,reduceCtorEq,Nat.reduceLT,Nat.reduceLeDiff,Nat.reduceEqDiff,Nat.reduceSub,Nat.reduceMul,frz1,frzR,eq_self,and_self,tys,  hlt,e2,eI,spN3_num,hxi,hs,app,hnx]
      refine loopQ_next (i+1) ?_ hlt (by omega)
      simp[Weak,weakL,weakR,weakV,nilV,nilR,okA,listH,deads,pinR,isVarB,pin_pins,  hw]
    · have htl:l.take i=l:=List.take_of_length_le (by omega)
      have hs:(bt (p++numsT (l.take i))).size+(bt [10]).size≤9223372036854775807:=by rw[size_bt,size_bt];simp;simp at hti;omega
      rw[htl] at hs
      simp (maxSteps:=2000000) only[↓awA,awB,evA,envE,ofV,putE,listH,setRow,spl,oneP,guardB,frzA,mapO,allSc,closeA,shiftA,shiftR,flatA,flat0,scA,Row.len,fillW,rep,chunks,closed1,Value.oneCell',Nat.reduceAdd,reduceIte,reduceCtorEq,Nat.reduceLT,Nat.reduceLeDiff,Nat.reduceEqDiff,Nat.reduceSub,Nat.reduceMul,frz1,frzR,eq_self,and_self,tys,  hlt,htl,h10,hs,app,hR]
  · have e8:(⟨#[102,97,117,108,116]⟩:ByteArray)=bt (Rc.opW 13):=rfl
    have c8:(((13:Nat):Int)==8)=false:=rfl
    have c7:decide (((13:Nat):Int)≤7)=false:=rfl
    have c13:(((13:Nat):Int)==13)=true:=rfl
    have k10:(Rc.opW 13).length=5:=by decide
    have s1:(bt (Rc.opW 13)).size+(bt (32::itoa a)).size≤9223372036854775807:=by rw[size_bt,size_bt,k10,List.length_cons];omega
    have hpl:(Rc.opW 13++(32::itoa a)).length≤1000:=by rw[List.length_append,k10,List.length_cons];omega
    simp (maxSteps:=2000000) only[↓awA,awB,evA,envE,ofV,putE,listH,setRow,spl,oneP,guardB,frzA,mapO,allSc,closeA,shiftA,shiftR,flatA,flat0,scA,Row.len,fillW,rep,chunks,closed1,Value.oneCell',Nat.reduceAdd,reduceIte,reduceCtorEq,Nat.reduceLT,Nat.reduceLeDiff,Nat.reduceEqDiff,Nat.reduceSub,Nat.reduceMul,frz1,frzR,eq_self,and_self,tys,  at_,c8,c7,c13,eI,spN3_lit,e8,app,s1,spN3_num,ha,hR]
    obtain⟨p,hp⟩:∃p,p=Rc.opW 13++(32::itoa a):=⟨_,rfl⟩
    rw[←hp] at hpl⊢
    refine aw_loop (fun i:Nat=>[.dead,.ptr 0 0,.dead,.sc (.string (bt (p++numsT (l.take i)))),.sc (.int .i64 (i:Int))]++deads 70) (fun _=>[.var [.sc (.int .u8 ((13:Nat):Int)),.sc (.int .i64 a),.sc (.string (bt [])),.sc (.int .i64 0),.ro (l.map eI)] 49])
     (fun i=>i≤l.length) (fun i=>l.length - i) 0 ?_ (Nat.zero_le _) ?_ (fun _ _=>by rw[show spN3.pins=0 from rfl];trivial)
    · simp[Weak,weakL,weakR,weakV,nilV,nilR,okA,listH,deads,pinR,isVarB,pin_pins,  numsT]
    intro i hi
    simp only[deads,List.replicate_succ,List.replicate_zero,List.cons_append,List.nil_append]
    have hti:(p++numsT (l.take i)).length≤1000+22*1000000:=by
     have:=numsT_len (l:=l.take i) (fun n hn=>hfl n (List.mem_of_mem_take hn))
     rw[List.length_take] at this
     rw[List.length_append]
     omega
    by_cases hlt:i<l.length
    · obtain⟨x,hx⟩:∃x,l[i]? =some x:=⟨_,List.getElem?_eq_getElem hlt⟩
      have e2:at_ (l.map eI) i=eI x:=at_some hx
      have hxi:=hfl x (List.mem_of_getElem? hx)
      have hxl:=itoa_len hxi.1 hxi.2
      have hw:=wr_lt hlt (by omega)
      have hs:(bt (p++numsT (l.take i))).size+(bt (32::itoa x)).size≤9223372036854775807:=by rw[size_bt,size_bt,List.length_cons];omega
      have hnx:p++numsT (l.take i)++(32::itoa x)=p++numsT (l.take (i+1)):=by
       rw[take_at hx]
       unfold numsT
       rw[List.map_append,List.flatten_append]
       simp
      simp (maxSteps:=2000000) only[↓awA,awB,evA,envE,ofV,putE,listH,setRow,spl,oneP,guardB,frzA,mapO,allSc,closeA,shiftA,shiftR,flatA,flat0,scA,Row.len,fillW,rep,chunks,closed1,Value.oneCell',Nat.reduceAdd,reduceIte,reduceCtorEq,Nat.reduceLT,Nat.reduceLeDiff,Nat.reduceEqDiff,Nat.reduceSub,Nat.reduceMul,frz1,frzR,eq_self,and_self,tys,  hlt,e2,eI,spN3_num,hxi,hs,app,hnx]
      refine loopQ_next (i+1) ?_ hlt (by omega)
      simp[Weak,weakL,weakR,weakV,nilV,nilR,okA,listH,deads,pinR,isVarB,pin_pins,  hw]
    · have htl:l.take i=l:=List.take_of_length_le (by omega)
      have hs:(bt (p++numsT (l.take i))).size+(bt [10]).size≤9223372036854775807:=by rw[size_bt,size_bt];simp;simp at hti;omega
      rw[htl] at hs
      simp (maxSteps:=2000000) only[↓awA,awB,evA,envE,ofV,putE,listH,setRow,spl,oneP,guardB,frzA,mapO,allSc,closeA,shiftA,shiftR,flatA,flat0,scA,Row.len,fillW,rep,chunks,closed1,Value.oneCell',Nat.reduceAdd,reduceIte,reduceCtorEq,Nat.reduceLT,Nat.reduceLeDiff,Nat.reduceEqDiff,Nat.reduceSub,Nat.reduceMul,frz1,frzR,eq_self,and_self,tys,  hlt,htl,h10,hs,app,hR]
 |list o l ho hf=>
  have ht:textM ⟨o,0,[],0,l⟩=Rc.opW o++numsT l:=by
   unfold textM wordsM
   simp only
   rw[if_neg (by omega),if_pos ho,join_cons,←tail_nums]
  rw[ht]
  exact line31_list o (by omega) l hf hl w
 |bare o ho=>
  have ht:textM ⟨o,0,[],0,[]⟩=Rc.opW o++numsT []:=by
   unfold textM wordsM
   simp only
   rw[if_neg (by omega),if_neg (by omega),if_pos ho,join_cons]
   rfl
  rw[ht]
  exact line31_list o (by omega) [] (fun n hn=>by cases hn) (by simp) w
end Go.Proofs.YtpjodoipceddpaaGreatDoor.Aw
