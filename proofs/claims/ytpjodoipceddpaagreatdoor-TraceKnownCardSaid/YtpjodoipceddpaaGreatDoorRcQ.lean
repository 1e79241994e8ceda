/- Traces: what the document puts; are records few? walked abstractly. -/
import Derived.Test.YtpjodoipceddpaaGreatDoorRecC
import Derived.Test.YtpjodoipceddpaaGreatDoorRcI
import Derived.Test.YtpjodoipceddpaaGreatDoorRcK
namespace Go.Proofs.YtpjodoipceddpaaGreatDoor.Aw
open Go.RowKit Go.Lib Rc
set_option maxHeartbeats 8000000
set_option maxRecDepth 100000
theorem put31_con (X:List RecM) (hX:X.length≤1000) (hr:∀r∈X,Shr r) (w:World):ConAt Tryz.prog w 26 [.ro (cRl X)] (.tup [.sc (.string (bt (putA [] X).1)),.sc (.int .i64 (putA [] X).2)]) []:=by
 refine con_of_aw (sp:=spC) (Φ:=fun _=>True) [] (fun w _=>spC_ok w) (by kernel_rfl) Tryz.func26 rfl ?_ w trivial
 intro hLen
 simp only[Tryz.ntmps26,List.length_cons,List.length_nil,Nat.reduceAdd,Nat.reduceSub,List.replicate_succ,List.replicate_zero,List.cons_append,List.nil_append]
 have hR:=Tryz.results26
 have hll:=cRl_len X
 obtain⟨R,hRR⟩:∃R,R=putA [] X:=⟨_,rfl⟩
 rw[←hRR]
 simp (maxSteps:=2000000) only[↓awA,awB,evA,envE,ofV,putE,listH,setRow,spl,oneP,guardB,frzA,mapO,allSc,closeA,shiftA,shiftR,flatA,flat0,scA,Row.len,fillW,rep,chunks,closed1,Value.oneCell',Nat.reduceAdd,reduceIte,reduceCtorEq,Nat.reduceLT,Nat.reduceLeDiff,Nat.reduceEqDiff,Nat.reduceSub,Nat.reduceMul,frz1,frzR,eq_self,and_self,tys,  hR,hll]
 refine aw_loop (fun x:Nat×T=>[.ro (cRl X),.dead,.dead,.dead,.sc (.string (bt x.2)),.sc (.int .i64 (x.1:Int))]++deads 20) (fun _=>[])
  (fun x=>x.1≤X.length∧x.2.length≤1100001*x.1∧putA x.2 (X.drop x.1)=R) (fun x=>X.length - x.1) (0,[]) ?_ ⟨Nat.zero_le _,Nat.zero_le _,hRR.symm⟩ ?_ (fun _ _=>by rw[show spC.pins=0 from rfl];trivial)
 · simp[Weak,weakL,weakR,weakV,nilV,nilR,okA,listH,deads,pinR,isVarB,pin_pins,  bt]
 rintro⟨i,acc⟩ ⟨hi,hal,hput⟩
 simp only at hi hal hput
 simp only[deads,List.replicate_succ,List.replicate_zero,List.cons_append,List.nil_append]
 by_cases hlt:i<X.length
 · obtain⟨r,hrx⟩:∃r,X[i]? =some r:=⟨_,List.getElem?_eq_getElem hlt⟩
   have e2:=cRl_at hrx
   have hw:=wr_lt hlt (by omega)
   obtain⟨hl,hn,h64⟩:=hr r (List.mem_of_getElem? hrx)
   have hn2:(r.name.length≤9223372036854775807)=True:=eq_true (by omega)
   have hdrop:X.drop i=r::X.drop (i+1):=by
    rw[List.drop_eq_getElem_cons hlt]
    congr 1
    rw[List.getElem?_eq_getElem hlt] at hrx
    exact Option.some.inj hrx
   rw[hdrop,putA] at hput
   cases hm:mayB nmB r
   · rw[if_neg (by rw[hm];simp)] at hput
     simp (maxSteps:=2000000) only[↓awA,awB,evA,envE,ofV,putE,listH,setRow,spl,oneP,guardB,frzA,mapO,allSc,closeA,shiftA,shiftR,flatA,flat0,scA,Row.len,fillW,rep,chunks,closed1,Value.oneCell',Nat.reduceAdd,reduceIte,reduceCtorEq,Nat.reduceLT,Nat.reduceLeDiff,Nat.reduceEqDiff,Nat.reduceSub,Nat.reduceMul,frz1,frzR,eq_self,and_self,tys,  hlt,hll,e2,cR,spC_may,hn2,hm,hR]
     rw[←hput]
     rfl
   · rw[if_pos hm] at hput
     have hln:(mayB nmB r=true∧In64 r∧r.list.length≤1000000∧r.name.length≤1000000)=True:=eq_true ⟨hm,h64,by omega,by omega⟩
     have hsp:=spC_line (r:=r)
     rw[hln] at hsp
     have hap:bt acc++bt (textM r++[10])=bt (acc++(textM r++[10])):=bt_app _ _
     have hwl:=words_le hm ⟨hl,hn,h64⟩
     have hsz:((bt acc).size+(bt (textM r++[10])).size≤9223372036854775807)=True:=eq_true (by rw[size_bt,size_bt,List.length_append,List.length_singleton];omega)
     simp (maxSteps:=2000000) only[↓awA,awB,evA,envE,ofV,putE,listH,setRow,spl,oneP,guardB,frzA,mapO,allSc,closeA,shiftA,shiftR,flatA,flat0,scA,Row.len,fillW,rep,chunks,closed1,Value.oneCell',Nat.reduceAdd,reduceIte,reduceCtorEq,Nat.reduceLT,Nat.reduceLeDiff,Nat.reduceEqDiff,Nat.reduceSub,Nat.reduceMul,frz1,frzR,eq_self,and_self,tys,  hlt,hll,e2,cR,spC_may,hn2,hm,hsp,hap,hsz,hR]
     refine loopQ_next (i+1,acc++(textM r++[10])) ?_ ⟨hlt, ?_,hput⟩ (by show X.length - (i+1)<X.length - i;omega)
     · simp[Weak,weakL,weakR,weakV,nilV,nilR,okA,listH,deads,pinR,isVarB,pin_pins,  hw]
     · show (acc++(textM r++[10])).length≤1100001*(i+1)
       rw[List.length_append,List.length_append,List.length_singleton]
       omega
 · have hie:X.drop i=[]:=List.drop_of_length_le (by omega)
   rw[hie] at hput
   simp (maxSteps:=2000000) only[↓awA,awB,evA,envE,ofV,putE,listH,setRow,spl,oneP,guardB,frzA,mapO,allSc,closeA,shiftA,shiftR,flatA,flat0,scA,Row.len,fillW,rep,chunks,closed1,Value.oneCell',Nat.reduceAdd,reduceIte,reduceCtorEq,Nat.reduceLT,Nat.reduceLeDiff,Nat.reduceEqDiff,Nat.reduceSub,Nat.reduceMul,frz1,frzR,eq_self,and_self,tys,  hlt,hll,hR]
   rw[←hput]
   rfl
structure Few (X:List RecM):Prop where
 len:X.length≤60
 name:∀r∈X,r.name.length≤100
 list:∀r∈X,(r.list.length≤40∨512<r.list.length)∧r.list.length≤600
theorem few31_con (X:List RecM) (hF:Few X) (w:World):ConAt Tryz.prog w 25 [.ro (cRl X)] (.sc (.bool true)) []:=by
 refine con_of_aw (sp:=spN) (Φ:=fun _=>True) [] (fun w _=>spN_ok w) (by kernel_rfl) Tryz.func25 rfl ?_ w trivial
 intro hLen
 simp only[Tryz.ntmps25,List.length_cons,List.length_nil,Nat.reduceAdd,Nat.reduceSub,List.replicate_succ,List.replicate_zero,List.cons_append,List.nil_append]
 have hR:=Tryz.results25
 have hll:=cRl_len X
 have hX:=hF.len
 simp (maxSteps:=2000000) only[↓awA,awB,evA,envE,ofV,putE,listH,setRow,spl,oneP,guardB,frzA,mapO,allSc,closeA,shiftA,shiftR,flatA,flat0,scA,Row.len,fillW,rep,chunks,closed1,Value.oneCell',Nat.reduceAdd,reduceIte,reduceCtorEq,Nat.reduceLT,Nat.reduceLeDiff,Nat.reduceEqDiff,Nat.reduceSub,Nat.reduceMul,frz1,frzR,eq_self,and_self,tys,  hR,hll]
 refine aw_loop (fun i:Nat=>[.ro (cRl X),.dead,.dead,.sc (.int .i64 (i:Int))]++deads 35) (fun _=>[])
  (fun i=>i≤X.length) (fun i=>X.length - i) 0 ?_ (Nat.zero_le _) ?_ (fun _ _=>by rw[show spN.pins=0 from rfl];trivial)
 · simp[Weak,weakL,weakR,weakV,nilV,nilR,okA,listH,deads,pinR,isVarB,pin_pins]
 intro i hi
 simp only[deads,List.replicate_succ,List.replicate_zero,List.cons_append,List.nil_append]
 by_cases hlt:i<X.length
 · obtain⟨r,hrx⟩:∃r,X[i]? =some r:=⟨_,List.getElem?_eq_getElem hlt⟩
   have e2:=cRl_at hrx
   have hw:=wr_lt hlt (by omega)
   have h1:=hF.name r (List.mem_of_getElem? hrx)
   obtain⟨h2,h3⟩:=hF.list r (List.mem_of_getElem? hrx)
   have hsz:(bt r.name).size=r.name.length:=size_bt _
   have c1:decide ((r.name.length:Int)>100)=false:=decide_eq_false (by omega)
   have c3:decide ((r.list.length:Int)>600)=false:=decide_eq_false (by omega)
   rcases h2 with h2|h2
   · have c2:decide ((r.list.length:Int)>40)=false:=decide_eq_false (by omega)
     simp (maxSteps:=2000000) only[↓awA,awB,evA,envE,ofV,putE,listH,setRow,spl,oneP,guardB,frzA,mapO,allSc,closeA,shiftA,shiftR,flatA,flat0,scA,Row.len,fillW,rep,chunks,closed1,Value.oneCell',Nat.reduceAdd,reduceIte,reduceCtorEq,Nat.reduceLT,Nat.reduceLeDiff,Nat.reduceEqDiff,Nat.reduceSub,Nat.reduceMul,frz1,frzR,eq_self,and_self,tys,  hlt,hll,e2,cR,hsz,c1,c2,c3,hR]
     refine loopQ_next (i+1) ?_ hlt (by omega)
     simp[Weak,weakL,weakR,weakV,nilV,nilR,okA,listH,deads,pinR,isVarB,pin_pins,  hw]
   · have c2:decide ((r.list.length:Int)>40)=true:=decide_eq_true (by omega)
     have c4:decide ((r.list.length:Int)≤512)=false:=decide_eq_false (by omega)
     simp (maxSteps:=2000000) only[↓awA,awB,evA,envE,ofV,putE,listH,setRow,spl,oneP,guardB,frzA,mapO,allSc,closeA,shiftA,shiftR,flatA,flat0,scA,Row.len,fillW,rep,chunks,closed1,Value.oneCell',Nat.reduceAdd,reduceIte,reduceCtorEq,Nat.reduceLT,Nat.reduceLeDiff,Nat.reduceEqDiff,Nat.reduceSub,Nat.reduceMul,frz1,frzR,eq_self,and_self,tys,  hlt,hll,e2,cR,hsz,c1,c2,c3,c4,hR]
     refine loopQ_next (i+1) ?_ hlt (by omega)
     simp[Weak,weakL,weakR,weakV,nilV,nilR,okA,listH,deads,pinR,isVarB,pin_pins,  hw]
 · have c5:decide ((X.length:Int)≤60)=true:=decide_eq_true (by omega)
   simp (maxSteps:=2000000) only[↓awA,awB,evA,envE,ofV,putE,listH,setRow,spl,oneP,guardB,frzA,mapO,allSc,closeA,shiftA,shiftR,flatA,flat0,scA,Row.len,fillW,rep,chunks,closed1,Value.oneCell',Nat.reduceAdd,reduceIte,reduceCtorEq,Nat.reduceLT,Nat.reduceLeDiff,Nat.reduceEqDiff,Nat.reduceSub,Nat.reduceMul,frz1,frzR,eq_self,and_self,tys,  hlt,hll,c5,hR]
end Go.Proofs.YtpjodoipceddpaaGreatDoor.Aw
