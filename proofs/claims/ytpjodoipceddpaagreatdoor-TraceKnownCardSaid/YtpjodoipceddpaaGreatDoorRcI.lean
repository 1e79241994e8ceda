/- Traces: the law's ref and same, walked abstractly. -/
import Derived.Test.YtpjodoipceddpaaGreatDoorRecK
namespace Go.Proofs.YtpjodoipceddpaaGreatDoor.Aw
open Go.RowKit Go.Lib Rc
set_option maxHeartbeats 8000000
set_option maxRecDepth 100000
def cRl (l:List RecM):List (List AV):=l.map cR
theorem cRl_len (l:List RecM):(cRl l).length=l.length:=by unfold cRl;rw[List.length_map]
theorem cRl_app (l m:List RecM):cRl l++cRl m=cRl (l++m):=by unfold cRl;rw[List.map_append]
theorem cRl_at {l:List RecM} {i:Nat} {x:RecM} (h:l[i]? =some x):at_ (cRl l) i=cR x:=at_some h
theorem spN_pins :(spN.pins=0)=True:=eq_true rfl
theorem wide1 (l:List Int):(∀e∈l.map eI,e.length=1)=True:=eq_true (fun e he=>by
 obtain⟨n, -,rfl⟩:=List.mem_map.1 he
 rfl)
def Sml (X:List RecM):Prop:=X.length≤1000000∧∀r∈X,r.list.length≤1000000
theorem ref31_con (X:List RecM) (hX:Sml X) (w:World):ConAt Tryz.prog w 9 [.ro (cRl X)] (.ro (cRl X)) []:=by
 obtain⟨hX,hL⟩:=hX
 refine con_of_aw (sp:=spN) (Φ:=fun _=>True) [(7,frzI 0 [2])] (fun w _=>spN_ok w) (by kernel_rfl) Tryz.func9 rfl ?_ w trivial
 intro hLen
 simp only[Tryz.ntmps9,List.length_cons,List.length_nil,Nat.reduceAdd,Nat.reduceSub,List.replicate_succ,List.replicate_zero,List.cons_append,List.nil_append]
 have hR:=Tryz.results9
 have hll:=cRl_len X
 simp (maxSteps:=2000000) only[↓awA,awB,evA,envE,ofV,putE,listH,setRow,spl,oneP,guardB,frzA,mapO,allSc,closeA,shiftA,shiftR,flatA,flat0,scA,Row.len,fillW,rep,chunks,closed1,Value.oneCell',Nat.reduceAdd,reduceIte,reduceCtorEq,Nat.reduceLT,Nat.reduceLeDiff,Nat.reduceEqDiff,Nat.reduceSub,Nat.reduceMul,frz1,frzR,eq_self,and_self,tys,  hR,hll]
 refine aw_loop (fun i:Nat=>[.ro (cRl X),.dead,.dead,.sl 0 i,.sc (.int .i64 (i:Int))]++deads 42) (fun i=>[.lst 5 (cRl (X.take i)) 49])
  (fun i=>i≤X.length) (fun i=>X.length - i) 0 ?_ (Nat.zero_le _) ?_ (fun _ _=>by rw[show spN.pins=0 from rfl];trivial)
 · simp[Weak,weakL,weakR,weakV,nilV,nilR,okA,listH,deads,pinR,isVarB,pin_pins,  cRl]
 intro i hi
 simp only[deads,List.replicate_succ,List.replicate_zero,List.cons_append,List.nil_append]
 have htl:(cRl (X.take i)).length=i:=by rw[cRl_len,List.length_take];omega
 by_cases hlt:i<X.length
 · obtain⟨r,hr⟩:∃r,X[i]? =some r:=⟨_,List.getElem?_eq_getElem hlt⟩
   have e2:=cRl_at hr
   have hw:=wr_lt hlt (by omega)
   have hrl:=hL r (List.mem_of_getElem? hr)
   have hb1:r.list.length*8≤140737488355328:=by omega
   have hb2:(i+1)*64≤140737488355328:=by omega
   have hsn:cRl (X.take i)++[cR r]=cRl (X.take (i+1)):=by rw[take_at hr];exact cRl_app _ [r]
   unfold cR at hsn
   have hwd:=wide1 r.list
   have htl2:(cRl (X.take (i+1))).length=i+1:=by rw[cRl_len,List.length_take];omega
   simp (maxSteps:=2000000) only[↓awA,awB,evA,envE,ofV,putE,listH,setRow,spl,oneP,guardB,frzA,mapO,allSc,closeA,shiftA,shiftR,flatA,flat0,scA,Row.len,fillW,rep,chunks,closed1,Value.oneCell',Nat.reduceAdd,reduceIte,reduceCtorEq,Nat.reduceLT,Nat.reduceLeDiff,Nat.reduceEqDiff,Nat.reduceSub,Nat.reduceMul,frz1,frzR,eq_self,and_self,tys,  hlt,hll,e2,cR,hwd,hb1,spN_lit,spN_pins,htl,hsn,hb2,htl2]
   refine⟨Dr_of (by kernel_rfl),Dr_of (by kernel_rfl),loopQ_next (i+1) ?_ hlt (by omega)⟩
   simp[Weak,weakL,weakR,weakV,nilV,nilR,okA,listH,deads,pinR,isVarB,pin_pins,  hw]
 · have hie:X.take i=X:=List.take_of_length_le (by omega)
   rw[hie] at htl⊢
   have hxi:(X.length=i)=True:=eq_true (by omega)
   simp (maxSteps:=2000000) only[↓awA,awB,evA,envE,ofV,putE,listH,setRow,spl,oneP,guardB,frzA,mapO,allSc,closeA,shiftA,shiftR,flatA,flat0,scA,Row.len,fillW,rep,chunks,closed1,Value.oneCell',Nat.reduceAdd,reduceIte,reduceCtorEq,Nat.reduceLT,Nat.reduceLeDiff,Nat.reduceEqDiff,Nat.reduceSub,Nat.reduceMul,frz1,frzR,eq_self,and_self,tys,  hlt,hll,hxi,hR]
theorem same31_con (X:List RecM) (hX:Sml X) (w:World):ConAt Tryz.prog w 8 [.ro (cRl X),.ro (cRl X)] (.sc (.bool true)) []:=by
 obtain⟨hX,hL⟩:=hX
 refine con_of_aw (sp:=spN) (Φ:=fun _=>True) [] (fun w _=>spN_ok w) (by kernel_rfl) Tryz.func8 rfl ?_ w trivial
 intro hLen
 simp only[Tryz.ntmps8,List.length_cons,List.length_nil,Nat.reduceAdd,Nat.reduceSub,List.replicate_succ,List.replicate_zero,List.cons_append,List.nil_append]
 have hR:=Tryz.results8
 have hll:=cRl_len X
 simp (maxSteps:=2000000) only[↓awA,awB,evA,envE,ofV,putE,listH,setRow,spl,oneP,guardB,frzA,mapO,allSc,closeA,shiftA,shiftR,flatA,flat0,scA,Row.len,fillW,rep,chunks,closed1,Value.oneCell',Nat.reduceAdd,reduceIte,reduceCtorEq,Nat.reduceLT,Nat.reduceLeDiff,Nat.reduceEqDiff,Nat.reduceSub,Nat.reduceMul,frz1,frzR,eq_self,and_self,tys,  hR,hll]
 refine aw_loop (fun i:Nat=>[.ro (cRl X),.ro (cRl X),.dead,.dead,.dead,.sc (.int .i64 (i:Int))]++deads 104) (fun _=>[])
  (fun i=>i≤X.length) (fun i=>X.length - i) 0 ?_ (Nat.zero_le _) ?_ (fun _ _=>by rw[show spN.pins=0 from rfl];trivial)
 · simp[Weak,weakL,weakR,weakV,nilV,nilR,okA,listH,deads,pinR,isVarB,pin_pins]
 intro i hi
 simp only[deads,List.replicate_succ,List.replicate_zero,List.cons_append,List.nil_append]
 by_cases hlt:i<X.length
 · obtain⟨r,hr⟩:∃r,X[i]? =some r:=⟨_,List.getElem?_eq_getElem hlt⟩
   have e2:=cRl_at hr
   have hw:=wr_lt hlt (by omega)
   have hrl:=hL r (List.mem_of_getElem? hr)
   simp (maxSteps:=2000000) only[↓awA,awB,evA,envE,ofV,putE,listH,setRow,spl,oneP,guardB,frzA,mapO,allSc,closeA,shiftA,shiftR,flatA,flat0,scA,Row.len,fillW,rep,chunks,closed1,Value.oneCell',Nat.reduceAdd,reduceIte,reduceCtorEq,Nat.reduceLT,Nat.reduceLeDiff,Nat.reduceEqDiff,Nat.reduceSub,Nat.reduceMul,frz1,frzR,eq_self,and_self,tys,  hlt,hll,e2,cR,List.append_eq]
   refine⟨Dr_of (by kernel_rfl), ?_⟩
   refine aw_loop (fun k:Nat=>[.ro (cRl X),.ro (cRl X),.dead,.dead,.dead,.sc (.int .i64 (i:Int)),.sc (.int .i64 (k:Int))]++deads 103) (fun _=>[])
    (fun k=>k≤r.list.length) (fun k=>r.list.length - k) 0 ?_ (Nat.zero_le _) ?_ (fun _ _=>by rw[show spN.pins=0 from rfl];trivial)
   · simp[Weak,weakL,weakR,weakV,nilV,nilR,okA,listH,deads,pinR,isVarB,pin_pins]
   intro k hk
   simp only[deads,List.replicate_succ,List.replicate_zero,List.cons_append,List.nil_append]
   by_cases hlk:k<r.list.length
   · obtain⟨n,hn⟩:∃n,r.list[k]? =some n:=⟨_,List.getElem?_eq_getElem hlk⟩
     have e3:at_ (r.list.map eI) k=eI n:=at_some hn
     have hwk:=wr_lt hlk (by omega)
     simp (maxSteps:=2000000) only[↓awA,awB,evA,envE,ofV,putE,listH,setRow,spl,oneP,guardB,frzA,mapO,allSc,closeA,shiftA,shiftR,flatA,flat0,scA,Row.len,fillW,rep,chunks,closed1,Value.oneCell',Nat.reduceAdd,reduceIte,reduceCtorEq,Nat.reduceLT,Nat.reduceLeDiff,Nat.reduceEqDiff,Nat.reduceSub,Nat.reduceMul,frz1,frzR,eq_self,and_self,tys,  hlt,hll,e2,cR,hlk,e3,eI]
     refine⟨Dr_of (by kernel_rfl),loopQ_next (k+1) ?_ hlk (by omega)⟩
     simp[Weak,weakL,weakR,weakV,nilV,nilR,okA,listH,deads,pinR,isVarB,pin_pins,  hwk]
   · simp (maxSteps:=2000000) only[↓awA,awB,evA,envE,ofV,putE,listH,setRow,spl,oneP,guardB,frzA,mapO,allSc,closeA,shiftA,shiftR,flatA,flat0,scA,Row.len,fillW,rep,chunks,closed1,Value.oneCell',Nat.reduceAdd,reduceIte,reduceCtorEq,Nat.reduceLT,Nat.reduceLeDiff,Nat.reduceEqDiff,Nat.reduceSub,Nat.reduceMul,frz1,frzR,eq_self,and_self,tys,  hlt,hll,e2,cR,hlk]
     refine loopQ_next (i+1) ?_ hlt (by omega)
     simp[Weak,weakL,weakR,weakV,nilV,nilR,okA,listH,deads,pinR,isVarB,pin_pins,  hw]
 · simp (maxSteps:=2000000) only[↓awA,awB,evA,envE,ofV,putE,listH,setRow,spl,oneP,guardB,frzA,mapO,allSc,closeA,shiftA,shiftR,flatA,flat0,scA,Row.len,fillW,rep,chunks,closed1,Value.oneCell',Nat.reduceAdd,reduceIte,reduceCtorEq,Nat.reduceLT,Nat.reduceLeDiff,Nat.reduceEqDiff,Nat.reduceSub,Nat.reduceMul,frz1,frzR,eq_self,and_self,tys,  hlt,hll,hR]
end Go.Proofs.YtpjodoipceddpaaGreatDoor.Aw
