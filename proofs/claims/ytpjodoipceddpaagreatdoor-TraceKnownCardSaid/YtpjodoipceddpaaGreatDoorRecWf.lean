/- Traces: the document's kinds of words, walked abstractly. -/
import Derived.Test.YtpjodoipceddpaaGreatDoorRecAb
namespace Go.Proofs.YtpjodoipceddpaaGreatDoor.Aw
open Go.RowKit Go.Lib Rc
set_option maxHeartbeats 8000000
set_option maxRecDepth 100000
theorem digit7_con (b:UInt8) (w:World):ConAt Tryz.prog w 72 (eB b) (.sc (.bool (isD b))) []:=by
 unfold eB
 refine con_of_aw (sp:=spN) (Φ:=fun _=>True) [] (fun w _=>spN_ok w) (by kernel_rfl) Tryz.func72 rfl ?_ w trivial
 intro hLen
 simp only[Tryz.ntmps72,List.length_cons,List.length_nil,Nat.reduceAdd,Nat.reduceSub,List.replicate_succ,List.replicate_zero,List.cons_append,List.nil_append]
 have e:isD b=(decide ((b.toNat:Int)≥48) && decide ((b.toNat:Int)≤57)):=by
  unfold isD
  rw[show decide ((b.toNat:Int)≥48)=decide (48≤b.toNat) from decide_eq_decide.2 (by omega),show decide ((b.toNat:Int)≤57)=decide (b.toNat≤57) from decide_eq_decide.2 (by omega)]
 rw[e]
 cases h1:decide ((b.toNat:Int)≥48)
 · simp (maxSteps:=2000000) only[↓awA,awB,evA,envE,ofV,putE,listH,setRow,spl,oneP,guardB,frzA,mapO,allSc,closeA,shiftA,shiftR,flatA,flat0,scA,Row.len,fillW,rep,chunks,closed1,Value.oneCell',Nat.reduceAdd,reduceIte,reduceCtorEq,Nat.reduceLT,Nat.reduceLeDiff,Nat.reduceEqDiff,Nat.reduceSub,Nat.reduceMul,frz1,frzR,eq_self,and_self,tys,  h1,Tryz.results72]
 · simp (maxSteps:=2000000) only[↓awA,awB,evA,envE,ofV,putE,listH,setRow,spl,oneP,guardB,frzA,mapO,allSc,closeA,shiftA,shiftR,flatA,flat0,scA,Row.len,fillW,rep,chunks,closed1,Value.oneCell',Nat.reduceAdd,reduceIte,reduceCtorEq,Nat.reduceLT,Nat.reduceLeDiff,Nat.reduceEqDiff,Nat.reduceSub,Nat.reduceMul,frz1,frzR,eq_self,and_self,tys,  h1,Tryz.results72]
theorem isL_int (b:UInt8):isL b=(decide ((b.toNat:Int)≥65) && decide ((b.toNat:Int)≤90)||decide ((b.toNat:Int)≥97) && decide ((b.toNat:Int)≤122)||((b.toNat:Int)==95)):=by
 unfold isL
 rw[show decide ((b.toNat:Int)≥65)=decide (65≤b.toNat) from decide_eq_decide.2 (by omega),show decide ((b.toNat:Int)≤90)=decide (b.toNat≤90) from decide_eq_decide.2 (by omega),show decide ((b.toNat:Int)≥97)=decide (97≤b.toNat) from decide_eq_decide.2 (by omega),show decide ((b.toNat:Int)≤122)=decide (b.toNat≤122) from decide_eq_decide.2 (by omega),
  show ((b.toNat:Int)==95)=decide (b.toNat=95) from by rw[Bool.eq_iff_iff,beq_iff_eq,decide_eq_true_eq];omega]
 rw[Bool.or_assoc,Bool.or_comm]
theorem letter7_con (b:UInt8) (w:World):ConAt Tryz.prog w 71 (eB b) (.sc (.bool (isL b))) []:=by
 unfold eB
 refine con_of_aw (sp:=spN) (Φ:=fun _=>True) [] (fun w _=>spN_ok w) (by kernel_rfl) Tryz.func71 rfl ?_ w trivial
 intro hLen
 simp only[Tryz.ntmps71,List.length_cons,List.length_nil,Nat.reduceAdd,Nat.reduceSub,List.replicate_succ,List.replicate_zero,List.cons_append,List.nil_append]
 rw[isL_int]
 have hfin:decide ((b.toNat:Int)≤90)=true→decide ((b.toNat:Int)≥97)=false:=fun h=>decide_eq_false (by have:=of_decide_eq_true h;omega)
 cases h1:decide ((b.toNat:Int)≥65)
 · cases h3:decide ((b.toNat:Int)≥97)
   · simp (maxSteps:=2000000) only[↓awA,awB,evA,envE,ofV,putE,listH,setRow,spl,oneP,guardB,frzA,mapO,allSc,closeA,shiftA,shiftR,flatA,flat0,scA,Row.len,fillW,rep,chunks,closed1,Value.oneCell',Nat.reduceAdd,reduceIte,reduceCtorEq,Nat.reduceLT,Nat.reduceLeDiff,Nat.reduceEqDiff,Nat.reduceSub,Nat.reduceMul,frz1,frzR,eq_self,and_self,tys,  h1,h3,Tryz.results71]
   · cases h4:decide ((b.toNat:Int)≤122)
     · simp (maxSteps:=2000000) only[↓awA,awB,evA,envE,ofV,putE,listH,setRow,spl,oneP,guardB,frzA,mapO,allSc,closeA,shiftA,shiftR,flatA,flat0,scA,Row.len,fillW,rep,chunks,closed1,Value.oneCell',Nat.reduceAdd,reduceIte,reduceCtorEq,Nat.reduceLT,Nat.reduceLeDiff,Nat.reduceEqDiff,Nat.reduceSub,Nat.reduceMul,frz1,frzR,eq_self,and_self,tys,  h1,h3,h4,Tryz.results71]
     · simp (maxSteps:=2000000) only[↓awA,awB,evA,envE,ofV,putE,listH,setRow,spl,oneP,guardB,frzA,mapO,allSc,closeA,shiftA,shiftR,flatA,flat0,scA,Row.len,fillW,rep,chunks,closed1,Value.oneCell',Nat.reduceAdd,reduceIte,reduceCtorEq,Nat.reduceLT,Nat.reduceLeDiff,Nat.reduceEqDiff,Nat.reduceSub,Nat.reduceMul,frz1,frzR,eq_self,and_self,tys,  h1,h3,h4,Tryz.results71]
 · cases h2:decide ((b.toNat:Int)≤90)
   · cases h3:decide ((b.toNat:Int)≥97)
     · simp (maxSteps:=2000000) only[↓awA,awB,evA,envE,ofV,putE,listH,setRow,spl,oneP,guardB,frzA,mapO,allSc,closeA,shiftA,shiftR,flatA,flat0,scA,Row.len,fillW,rep,chunks,closed1,Value.oneCell',Nat.reduceAdd,reduceIte,reduceCtorEq,Nat.reduceLT,Nat.reduceLeDiff,Nat.reduceEqDiff,Nat.reduceSub,Nat.reduceMul,frz1,frzR,eq_self,and_self,tys,  h1,h2,h3,Tryz.results71]
     · cases h4:decide ((b.toNat:Int)≤122)
       · simp (maxSteps:=2000000) only[↓awA,awB,evA,envE,ofV,putE,listH,setRow,spl,oneP,guardB,frzA,mapO,allSc,closeA,shiftA,shiftR,flatA,flat0,scA,Row.len,fillW,rep,chunks,closed1,Value.oneCell',Nat.reduceAdd,reduceIte,reduceCtorEq,Nat.reduceLT,Nat.reduceLeDiff,Nat.reduceEqDiff,Nat.reduceSub,Nat.reduceMul,frz1,frzR,eq_self,and_self,tys,  h1,h2,h3,h4,Tryz.results71]
       · simp (maxSteps:=2000000) only[↓awA,awB,evA,envE,ofV,putE,listH,setRow,spl,oneP,guardB,frzA,mapO,allSc,closeA,shiftA,shiftR,flatA,flat0,scA,Row.len,fillW,rep,chunks,closed1,Value.oneCell',Nat.reduceAdd,reduceIte,reduceCtorEq,Nat.reduceLT,Nat.reduceLeDiff,Nat.reduceEqDiff,Nat.reduceSub,Nat.reduceMul,frz1,frzR,eq_self,and_self,tys,  h1,h2,h3,h4,Tryz.results71]
   · simp (maxSteps:=2000000) only[↓awA,awB,evA,envE,ofV,putE,listH,setRow,spl,oneP,guardB,frzA,mapO,allSc,closeA,shiftA,shiftR,flatA,flat0,scA,Row.len,fillW,rep,chunks,closed1,Value.oneCell',Nat.reduceAdd,reduceIte,reduceCtorEq,Nat.reduceLT,Nat.reduceLeDiff,Nat.reduceEqDiff,Nat.reduceSub,Nat.reduceMul,frz1,frzR,eq_self,and_self,tys,  h1,h2,Tryz.results71]
def bt (l:T):ByteArray:=⟨l.toArray⟩
theorem bt_list (s:ByteArray):bt s.data.toList=s:=by cases s;simp[bt]
theorem list_bt (l:T):(bt l).data.toList=l:=by simp[bt]
theorem bt_inj {l m:T} (h:bt l=bt m):l=m:=by rw[←list_bt l,←list_bt m,h]
def eSL (x:ByteArray×List ByteArray):List AV:=[.sc (.string x.1),.ro (x.2.map eS)]
theorem eSL_inj (x y:ByteArray×List ByteArray) (h:eSL x=eSL y):x=y:=by
 unfold eSL at h
 simp only[List.cons.injEq,AV.sc.injEq,Value.string.injEq,AV.ro.injEq,and_true] at h
 exact Prod.ext h.1 ((List.map_inj_right (fun a b hab=>eS_inj hab)).1 h.2)
def anyS (x:ByteArray×List ByteArray):Bool:=x.2.any fun y=>decide (y=x.1)
theorem anyS_mem (s:T) (L:List T):anyS (bt s,L.map bt)=decide (s∈L):=by
 unfold anyS
 induction L with
 |nil=>rfl
 |cons x L ih=>
  rw[List.map_cons,List.any_cons,ih]
  by_cases h:x=s
  · subst h;simp
  · have:¬bt x=bt s:=fun e=>h (bt_inj e)
    have h2:¬s=x:=fun e=>h e.symm
    simp[this,h2]
theorem among_con (x:ByteArray×List ByteArray) (w:World):ConAt Tryz.prog w 70 (eSL x) (.sc (.bool (anyS x))) []:=by
 obtain⟨s,L⟩:=x
 unfold eSL anyS
 simp only
 refine con_of_aw (sp:=spN) (Φ:=fun _=>True) [] (fun w _=>spN_ok w) (by kernel_rfl) Tryz.func70 rfl ?_ w trivial
 intro hLen
 simp only[Tryz.ntmps70,List.length_cons,List.length_nil,Nat.reduceAdd,Nat.reduceSub,List.replicate_succ,List.replicate_zero,List.cons_append,List.nil_append]
 have hl:L.length≤9223372036854775807:=by
  have:=(hLen (.ro (L.map eS)) (by simp)).1
  rwa [List.length_map] at this
 simp (maxSteps:=2000000) only[↓awA,awB,evA,envE,ofV,putE,listH,setRow,spl,oneP,guardB,frzA,mapO,allSc,closeA,shiftA,shiftR,flatA,flat0,scA,Row.len,fillW,rep,chunks,closed1,Value.oneCell',Nat.reduceAdd,reduceIte,reduceCtorEq,Nat.reduceLT,Nat.reduceLeDiff,Nat.reduceEqDiff,Nat.reduceSub,Nat.reduceMul,frz1,frzR,eq_self,and_self,tys,  Tryz.results70]
 refine aw_loop (fun i:Nat=>[.sc (.string s),.ro (L.map eS),.dead,.dead,.dead,.sc (.int .i64 (i:Int))]++deads 12) (fun _=>[]) (fun i=>i≤L.length∧(L.any fun y=>decide (y=s))=((L.drop i).any fun y=>decide (y=s))) (fun i=>L.length - i) 0 ?_ ⟨Nat.zero_le _,rfl⟩ ?_
 · simp[Weak,weakL,weakR,weakV,nilV,nilR,okA,listH,deads,pinR,isVarB,pin_pins]
 rintro i ⟨hi,hA⟩
 simp only[deads,List.replicate_succ,List.replicate_zero,List.cons_append,List.nil_append]
 by_cases hlt:i<L.length
 · obtain⟨x,hx⟩:∃x,L[i]? =some x:=⟨_,List.getElem?_eq_getElem hlt⟩
   have e2:at_ (L.map eS) i=eS x:=at_some hx
   have hw:=wr_lt hlt hl
   have hd:L.drop i=x::L.drop (i+1):=by
    rw[List.drop_eq_getElem_cons hlt]
    rw[List.getElem?_eq_getElem hlt] at hx
    rw[Option.some.inj hx]
   rw[hd,List.any_cons] at hA
   cases hp:decide (x=s)
   · rw[hp,Bool.false_or] at hA
     simp (maxSteps:=2000000) only[↓awA,awB,evA,envE,ofV,putE,listH,setRow,spl,oneP,guardB,frzA,mapO,allSc,closeA,shiftA,shiftR,flatA,flat0,scA,Row.len,fillW,rep,chunks,closed1,Value.oneCell',Nat.reduceAdd,reduceIte,reduceCtorEq,Nat.reduceLT,Nat.reduceLeDiff,Nat.reduceEqDiff,Nat.reduceSub,Nat.reduceMul,frz1,frzR,eq_self,and_self,tys,  hlt,e2,eS,hp]
     refine loopQ_next (i+1) ?_ ⟨hlt,hA⟩ (by omega)
     simp[Weak,weakL,weakR,weakV,nilV,nilR,okA,listH,deads,pinR,isVarB,pin_pins,  hw]
   · rw[hp,Bool.true_or] at hA
     rw[hA]
     simp (maxSteps:=2000000) only[↓awA,awB,evA,envE,ofV,putE,listH,setRow,spl,oneP,guardB,frzA,mapO,allSc,closeA,shiftA,shiftR,flatA,flat0,scA,Row.len,fillW,rep,chunks,closed1,Value.oneCell',Nat.reduceAdd,reduceIte,reduceCtorEq,Nat.reduceLT,Nat.reduceLeDiff,Nat.reduceEqDiff,Nat.reduceSub,Nat.reduceMul,frz1,frzR,eq_self,and_self,tys,  hlt,e2,eS,hp,Tryz.results70]
 · rw[hA,List.drop_of_length_le (by omega),List.any_nil]
   simp (maxSteps:=2000000) only[↓awA,awB,evA,envE,ofV,putE,listH,setRow,spl,oneP,guardB,frzA,mapO,allSc,closeA,shiftA,shiftR,flatA,flat0,scA,Row.len,fillW,rep,chunks,closed1,Value.oneCell',Nat.reduceAdd,reduceIte,reduceCtorEq,Nat.reduceLT,Nat.reduceLeDiff,Nat.reduceEqDiff,Nat.reduceSub,Nat.reduceMul,frz1,frzR,eq_self,and_self,tys,  hlt,Tryz.results70]
noncomputable def spW :Spec:=(((spN.tell 72 (byE eB (fun _=>True) (fun b=>.sc (.bool (isD b))))).tell 71 (byE eB (fun _=>True) (fun b=>.sc (.bool (isL b))))).tell
 70 (byE eSL (fun _=>True) (fun x=>.sc (.bool (anyS x))))).lits
theorem spW_digit {b:UInt8}:spW.call 72 [.sc (.int .u8 (b.toNat:Int))]=some (True,.sc (.bool (isD b)),[]):=by
 unfold spW
 rw[lits_call,tell_ne (by rfl),tell_ne (by rfl),tell_same]
 exact byE_eq (fun _ _=>eB_inj) b
theorem spW_letter {b:UInt8}:spW.call 71 [.sc (.int .u8 (b.toNat:Int))]=some (True,.sc (.bool (isL b)),[]):=by
 unfold spW
 rw[lits_call,tell_ne (by rfl),tell_same]
 exact byE_eq (fun _ _=>eB_inj) b
def litS (L:List T):List (List AV):=(L.map bt).map eS
theorem spW_among {s:ByteArray} {L:List T}:spW.call 70 [.sc (.string s),.ro (litS L)]=some (True,.sc (.bool (decide (s.data.toList∈L))),[]):=by
 unfold spW
 rw[lits_call,tell_same,←anyS_mem,bt_list]
 exact byE_eq eSL_inj (s,L.map bt)
theorem spW_ok (w:World) {fp:Nat→Prop}:SpecOk Tryz.prog spW w fp:=
 lits_ok<|tell_ok (tell_ok (tell_ok (spN_ok w) (enters_of' Tryz.func72 (by kernel_rfl)) (byE_ok fun a _ w _=>digit7_con a w)) (enters_of' Tryz.func71 (by kernel_rfl)) (byE_ok fun a _ w _=>letter7_con a w))
  (enters_of' Tryz.func70 (by kernel_rfl)) (byE_ok fun a _ w _=>among_con a w)
theorem spW_lit :(spW.lit=true)=True:=eq_true rfl
theorem spW_signs {s:ByteArray}:spW.call 70 [.sc (.string s),.ro [[.sc (.string ⟨#[58,61]⟩)],[.sc (.string ⟨#[60,62]⟩)],[.sc (.string ⟨#[60,61]⟩)],[.sc (.string ⟨#[62,61]⟩)],[.sc (.string ⟨#[60]⟩)],[.sc (.string ⟨#[62]⟩)],[.sc (.string ⟨#[61]⟩)],[.sc (.string ⟨#[43]⟩)],[.sc (.string ⟨#[45]⟩)],[.sc (.string ⟨#[42]⟩)],[.sc (.string ⟨#[40]⟩)],[.sc (.string ⟨#[41]⟩)],[.sc (.string ⟨#[44]⟩)],[.sc (.string ⟨#[59]⟩)]]]=some (True,.sc (.bool (decide (s.data.toList∈signs))),[]):=spW_among (L:=signs)
theorem spW_kws {s:ByteArray}:spW.call 70 [.sc (.string s),.ro [[.sc (.string ⟨#[97,110,100]⟩)],[.sc (.string ⟨#[100,105,118]⟩)],[.sc (.string ⟨#[101,108,115,101]⟩)],[.sc (.string ⟨#[101,109,105,116]⟩)],[.sc (.string ⟨#[101,110,100,105,102]⟩)],[.sc (.string ⟨#[102,97,108,115,101]⟩)],[.sc (.string ⟨#[105,102]⟩)],[.sc (.string ⟨#[105,109,112,108,105,101,115]⟩)],[.sc (.string ⟨#[109,111,100]⟩)],[.sc (.string ⟨#[110,111,116]⟩)],[.sc (.string ⟨#[111,114]⟩)],[.sc (.string ⟨#[116,104,101,110]⟩)],[.sc (.string ⟨#[116,114,117,101]⟩)],[.sc (.string ⟨#[120,111,114]⟩)]]]=some (True,.sc (.bool (decide (s.data.toList∈kws))),[]):=spW_among (L:=kws)
theorem isEmpty_dec (s:ByteArray):decide (s=⟨#[]⟩)=decide (s.data.toList=[]):=by
 rw[decide_eq_decide]
 constructor
 · rintro rfl;rfl
 · intro h;rw[←bt_list s,h];rfl
theorem whole_con (s:ByteArray) (hs:s.size≤9223372036854775807) (w:World):ConAt Tryz.prog w 57 (eS s) (.sc (.int .u8 (wholeM s.data.toList:Nat))) []:=by
 unfold eS
 refine con_of_aw (sp:=spW) (Φ:=fun _=>True) [] (fun w _=>spW_ok w) (by kernel_rfl) Tryz.func57 rfl ?_ w trivial
 intro hLen
 simp only[Tryz.ntmps57,List.length_cons,List.length_nil,Nat.reduceAdd,Nat.reduceSub,List.replicate_succ,List.replicate_zero,List.cons_append,List.nil_append]
 have hl:s.data.toList.length=s.size:=rfl
 have hE:=isEmpty_dec s
 obtain⟨L,hL⟩:∃L,L=s.data.toList:=⟨_,rfl⟩
 unfold wholeM
 by_cases h1:s.data.toList∈signs
 · have c1:=decide_eq_true h1
   rw[if_pos h1]
   have e4:((4:Nat):Int)=4:=rfl
   simp (maxSteps:=2000000) only[↓awA,awB,evA,envE,ofV,putE,listH,setRow,spl,oneP,guardB,frzA,mapO,allSc,closeA,shiftA,shiftR,flatA,flat0,scA,Row.len,fillW,rep,chunks,closed1,Value.oneCell',Nat.reduceAdd,reduceIte,reduceCtorEq,Nat.reduceLT,Nat.reduceLeDiff,Nat.reduceEqDiff,Nat.reduceSub,Nat.reduceMul,frz1,frzR,eq_self,and_self,tys,  e4,spW_lit,spW_signs,c1,Tryz.results57]
 have c1:=decide_eq_false h1
 rw[if_neg h1]
 by_cases h2:s.data.toList∈kws
 · have c2:=decide_eq_true h2
   rw[if_pos h2]
   have e4:((3:Nat):Int)=3:=rfl
   simp (maxSteps:=2000000) only[↓awA,awB,evA,envE,ofV,putE,listH,setRow,spl,oneP,guardB,frzA,mapO,allSc,closeA,shiftA,shiftR,flatA,flat0,scA,Row.len,fillW,rep,chunks,closed1,Value.oneCell',Nat.reduceAdd,reduceIte,reduceCtorEq,Nat.reduceLT,Nat.reduceLeDiff,Nat.reduceEqDiff,Nat.reduceSub,Nat.reduceMul,frz1,frzR,eq_self,and_self,tys,  e4,spW_lit,spW_signs,c1,spW_kws,c2,Tryz.results57]
 have c2:=decide_eq_false h2
 rw[if_neg h2]
 by_cases h3:s.data.toList=[]
 · have c3:=decide_eq_true h3
   rw[if_pos h3]
   have e4:((0:Nat):Int)=0:=rfl
   simp (maxSteps:=2000000) only[↓awA,awB,evA,envE,ofV,putE,listH,setRow,spl,oneP,guardB,frzA,mapO,allSc,closeA,shiftA,shiftR,flatA,flat0,scA,Row.len,fillW,rep,chunks,closed1,Value.oneCell',Nat.reduceAdd,reduceIte,reduceCtorEq,Nat.reduceLT,Nat.reduceLeDiff,Nat.reduceEqDiff,Nat.reduceSub,Nat.reduceMul,frz1,frzR,eq_self,and_self,tys,  e4,spW_lit,spW_signs,c1,spW_kws,c2,hE,c3,Tryz.results57]
 have c3:=decide_eq_false h3
 rw[if_neg h3]
 obtain⟨b0,r,hb0⟩:=List.exists_cons_of_ne_nil h3
 have hb:byteAt s 0=(b0.toNat:Int):=byteAt_some (by rw[hb0];rfl)
 have hpos:0<s.size:=by rw[←hl,hb0];simp
 have hhead:(s.data.toList.head?.map isL).getD false=isL b0:=by rw[hb0];rfl
 rw[hhead]
 have hz:Int.toNat 0=0:=rfl
 have hz2:(0:Int)≤0:=Int.le_refl 0
 have hz3:(0:Int)<s.size:=by omega
 simp (maxSteps:=2000000) only[↓awA,awB,evA,envE,ofV,putE,listH,setRow,spl,oneP,guardB,frzA,mapO,allSc,closeA,shiftA,shiftR,flatA,flat0,scA,Row.len,fillW,rep,chunks,closed1,Value.oneCell',Nat.reduceAdd,reduceIte,reduceCtorEq,Nat.reduceLT,Nat.reduceLeDiff,Nat.reduceEqDiff,Nat.reduceSub,Nat.reduceMul,frz1,frzR,eq_self,and_self,tys,  hz,hz2,hz3,spW_lit,spW_signs,c1,spW_kws,c2,hE,c3,hpos,hb,spW_letter]
 refine aw_loop (fun st:Bool×Bool×Nat=>[.sc (.string s),.dead,.dead,.sc (.bool st.1),.sc (.bool st.2.1),.sc (.int .i64 (st.2.2:Int))]++deads 39) (fun _=>[])
  (fun st=>st.2.2≤s.size∧s.data.toList.all isD=(st.1 && (s.data.toList.drop st.2.2).all isD)∧(isL b0 && s.data.toList.all isLD)=(st.2.1 && (s.data.toList.drop st.2.2).all isLD)) (fun st=>s.size - st.2.2) (true,isL b0,0) ?_ ⟨Nat.zero_le _,by simp,by simp⟩ ?_ (fun _ _=>by rw[show spW.pins=0 from rfl];trivial)
 · simp[Weak,weakL,weakR,weakV,nilV,nilR,okA,listH,deads,pinR,isVarB,pin_pins]
 rintro⟨d,n,i⟩ ⟨hi,hA,hB⟩
 simp only at hi hA hB
 simp only[deads,List.replicate_succ,List.replicate_zero,List.cons_append,List.nil_append]
 by_cases hlt:i<s.size
 · obtain⟨x,hx⟩:∃x,s.data.toList[i]? =some x:=⟨_,List.getElem?_eq_getElem (by omega)⟩
   have e2:=byteAt_some hx
   have hw:=wr_lt hlt hs
   have hd:s.data.toList.drop i=x::s.data.toList.drop (i+1):=by
    rw[List.drop_eq_getElem_cons (by omega)]
    rw[List.getElem?_eq_getElem (by omega)] at hx
    rw[Option.some.inj hx]
   rw[hd,List.all_cons,←Bool.and_assoc] at hA hB
   have hnx:∀d' n',d'=(d && isD x)→n'=(n && isLD x)→i+1≤s.size∧s.data.toList.all isD=(d' && (s.data.toList.drop (i+1)).all isD)∧(isL b0 && s.data.toList.all isLD)=(n' && (s.data.toList.drop (i+1)).all isLD):=fun d' n' h1 h2=>⟨hlt,by rw[h1];exact hA,by rw[h2];exact hB⟩
   cases d
   · cases n
     · simp (maxSteps:=2000000) only[↓awA,awB,evA,envE,ofV,putE,listH,setRow,spl,oneP,guardB,frzA,mapO,allSc,closeA,shiftA,shiftR,flatA,flat0,scA,Row.len,fillW,rep,chunks,closed1,Value.oneCell',Nat.reduceAdd,reduceIte,reduceCtorEq,Nat.reduceLT,Nat.reduceLeDiff,Nat.reduceEqDiff,Nat.reduceSub,Nat.reduceMul,frz1,frzR,eq_self,and_self,tys,  hlt,e2]
       refine loopQ_next (false,false,i+1) ?_ (hnx _ _ rfl rfl) (by show s.size - (i+1)<s.size - i;omega)
       simp[Weak,weakL,weakR,weakV,nilV,nilR,okA,listH,deads,pinR,isVarB,pin_pins,  hw]
     · cases h5:isL x
       · simp (maxSteps:=2000000) only[↓awA,awB,evA,envE,ofV,putE,listH,setRow,spl,oneP,guardB,frzA,mapO,allSc,closeA,shiftA,shiftR,flatA,flat0,scA,Row.len,fillW,rep,chunks,closed1,Value.oneCell',Nat.reduceAdd,reduceIte,reduceCtorEq,Nat.reduceLT,Nat.reduceLeDiff,Nat.reduceEqDiff,Nat.reduceSub,Nat.reduceMul,frz1,frzR,eq_self,and_self,tys,  hlt,e2,spW_letter,spW_digit,h5]
         refine loopQ_next (false,isD x,i+1) ?_ (hnx _ _ rfl (by unfold isLD;rw[h5];rfl)) (by show s.size - (i+1)<s.size - i;omega)
         simp[Weak,weakL,weakR,weakV,nilV,nilR,okA,listH,deads,pinR,isVarB,pin_pins,  hw]
       · simp (maxSteps:=2000000) only[↓awA,awB,evA,envE,ofV,putE,listH,setRow,spl,oneP,guardB,frzA,mapO,allSc,closeA,shiftA,shiftR,flatA,flat0,scA,Row.len,fillW,rep,chunks,closed1,Value.oneCell',Nat.reduceAdd,reduceIte,reduceCtorEq,Nat.reduceLT,Nat.reduceLeDiff,Nat.reduceEqDiff,Nat.reduceSub,Nat.reduceMul,frz1,frzR,eq_self,and_self,tys,  hlt,e2,spW_letter,spW_digit,h5]
         refine loopQ_next (false,true,i+1) ?_ (hnx _ _ rfl (by unfold isLD;rw[h5];rfl)) (by show s.size - (i+1)<s.size - i;omega)
         simp[Weak,weakL,weakR,weakV,nilV,nilR,okA,listH,deads,pinR,isVarB,pin_pins,  hw]
   · cases n
     · simp (maxSteps:=2000000) only[↓awA,awB,evA,envE,ofV,putE,listH,setRow,spl,oneP,guardB,frzA,mapO,allSc,closeA,shiftA,shiftR,flatA,flat0,scA,Row.len,fillW,rep,chunks,closed1,Value.oneCell',Nat.reduceAdd,reduceIte,reduceCtorEq,Nat.reduceLT,Nat.reduceLeDiff,Nat.reduceEqDiff,Nat.reduceSub,Nat.reduceMul,frz1,frzR,eq_self,and_self,tys,  hlt,e2,spW_digit]
       refine loopQ_next (isD x,false,i+1) ?_ (hnx _ _ rfl rfl) (by show s.size - (i+1)<s.size - i;omega)
       simp[Weak,weakL,weakR,weakV,nilV,nilR,okA,listH,deads,pinR,isVarB,pin_pins,  hw]
     · cases h5:isL x
       · simp (maxSteps:=2000000) only[↓awA,awB,evA,envE,ofV,putE,listH,setRow,spl,oneP,guardB,frzA,mapO,allSc,closeA,shiftA,shiftR,flatA,flat0,scA,Row.len,fillW,rep,chunks,closed1,Value.oneCell',Nat.reduceAdd,reduceIte,reduceCtorEq,Nat.reduceLT,Nat.reduceLeDiff,Nat.reduceEqDiff,Nat.reduceSub,Nat.reduceMul,frz1,frzR,eq_self,and_self,tys,  hlt,e2,spW_letter,spW_digit,h5]
         refine loopQ_next (isD x,isD x,i+1) ?_ (hnx _ _ rfl (by unfold isLD;rw[h5];rfl)) (by show s.size - (i+1)<s.size - i;omega)
         simp[Weak,weakL,weakR,weakV,nilV,nilR,okA,listH,deads,pinR,isVarB,pin_pins,  hw]
       · simp (maxSteps:=2000000) only[↓awA,awB,evA,envE,ofV,putE,listH,setRow,spl,oneP,guardB,frzA,mapO,allSc,closeA,shiftA,shiftR,flatA,flat0,scA,Row.len,fillW,rep,chunks,closed1,Value.oneCell',Nat.reduceAdd,reduceIte,reduceCtorEq,Nat.reduceLT,Nat.reduceLeDiff,Nat.reduceEqDiff,Nat.reduceSub,Nat.reduceMul,frz1,frzR,eq_self,and_self,tys,  hlt,e2,spW_letter,spW_digit,h5]
         refine loopQ_next (isD x,true,i+1) ?_ (hnx _ _ rfl (by unfold isLD;rw[h5];rfl)) (by show s.size - (i+1)<s.size - i;omega)
         simp[Weak,weakL,weakR,weakV,nilV,nilR,okA,listH,deads,pinR,isVarB,pin_pins,  hw]
 · rw[List.drop_of_length_le (by omega),List.all_nil,Bool.and_true] at hA hB
   rw[hA,hB]
   have e0:((0:Nat):Int)=0:=rfl
   have e1:((1:Nat):Int)=1:=rfl
   have e2:((2:Nat):Int)=2:=rfl
   cases d
   · cases n
     · simp (maxSteps:=2000000) only[↓awA,awB,evA,envE,ofV,putE,listH,setRow,spl,oneP,guardB,frzA,mapO,allSc,closeA,shiftA,shiftR,flatA,flat0,scA,Row.len,fillW,rep,chunks,closed1,Value.oneCell',Nat.reduceAdd,reduceIte,reduceCtorEq,Nat.reduceLT,Nat.reduceLeDiff,Nat.reduceEqDiff,Nat.reduceSub,Nat.reduceMul,frz1,frzR,eq_self,and_self,tys,  hlt,e0,Tryz.results57]
     · simp (maxSteps:=2000000) only[↓awA,awB,evA,envE,ofV,putE,listH,setRow,spl,oneP,guardB,frzA,mapO,allSc,closeA,shiftA,shiftR,flatA,flat0,scA,Row.len,fillW,rep,chunks,closed1,Value.oneCell',Nat.reduceAdd,reduceIte,reduceCtorEq,Nat.reduceLT,Nat.reduceLeDiff,Nat.reduceEqDiff,Nat.reduceSub,Nat.reduceMul,frz1,frzR,eq_self,and_self,tys,  hlt,e2,Tryz.results57]
   · simp (maxSteps:=2000000) only[↓awA,awB,evA,envE,ofV,putE,listH,setRow,spl,oneP,guardB,frzA,mapO,allSc,closeA,shiftA,shiftR,flatA,flat0,scA,Row.len,fillW,rep,chunks,closed1,Value.oneCell',Nat.reduceAdd,reduceIte,reduceCtorEq,Nat.reduceLT,Nat.reduceLeDiff,Nat.reduceEqDiff,Nat.reduceSub,Nat.reduceMul,frz1,frzR,eq_self,and_self,tys,  hlt,e1,Tryz.results57]
noncomputable def spW2 :Spec:=spN.tell 57 (byE eS (fun s=>s.size≤9223372036854775807) (fun s=>.sc (.int .u8 (wholeM s.data.toList:Nat))))
theorem spW2_at {s:ByteArray}:spW2.call 57 [.sc (.string s)]=some (s.size≤9223372036854775807,.sc (.int .u8 (wholeM s.data.toList:Nat)),[]):=by
 unfold spW2
 rw[tell_same]
 exact byE_eq (fun _ _=>eS_inj) s
theorem spW2_ok (w:World) {fp:Nat→Prop}:SpecOk Tryz.prog spW2 w fp:=
 tell_ok (spN_ok w) (enters_of' Tryz.func57 (by kernel_rfl)) (byE_ok fun a h w _=>whole_con a h w)
theorem is7_con (s:ByteArray) (hs:s.size≤9223372036854775807) (w:World):ConAt Tryz.prog w 36 (eS s) (.sc (.int .u8 (isR s.data.toList:Nat))) []:=by
 unfold eS
 refine con_of_aw (sp:=spW2) (Φ:=fun _=>True) [] (fun w _=>spW2_ok w) (by kernel_rfl) Tryz.func36 rfl ?_ w trivial
 intro hLen
 simp only[Tryz.ntmps36,List.length_cons,List.length_nil,Nat.reduceAdd,Nat.reduceSub,List.replicate_succ,List.replicate_zero,List.cons_append,List.nil_append]
 have hl:s.data.toList.length=s.size:=rfl
 unfold isR
 by_cases h:64<s.size
 · have c:decide ((s.size:Int)>64)=true:=decide_eq_true (by omega)
   rw[if_pos (by omega)]
   have e4:((0:Nat):Int)=0:=rfl
   simp (maxSteps:=2000000) only[↓awA,awB,evA,envE,ofV,putE,listH,setRow,spl,oneP,guardB,frzA,mapO,allSc,closeA,shiftA,shiftR,flatA,flat0,scA,Row.len,fillW,rep,chunks,closed1,Value.oneCell',Nat.reduceAdd,reduceIte,reduceCtorEq,Nat.reduceLT,Nat.reduceLeDiff,Nat.reduceEqDiff,Nat.reduceSub,Nat.reduceMul,frz1,frzR,eq_self,and_self,tys,  e4,c,Tryz.results36]
 · have c:decide ((s.size:Int)>64)=false:=decide_eq_false (by omega)
   rw[if_neg (by omega)]
   simp (maxSteps:=2000000) only[↓awA,awB,evA,envE,ofV,putE,listH,setRow,spl,oneP,guardB,frzA,mapO,allSc,closeA,shiftA,shiftR,flatA,flat0,scA,Row.len,fillW,rep,chunks,closed1,Value.oneCell',Nat.reduceAdd,reduceIte,reduceCtorEq,Nat.reduceLT,Nat.reduceLeDiff,Nat.reduceEqDiff,Nat.reduceSub,Nat.reduceMul,frz1,frzR,eq_self,and_self,tys,  c,spW2_at,hs,Tryz.results36]
end Go.Proofs.YtpjodoipceddpaaGreatDoor.Aw
namespace Go.Proofs.YtpjodoipceddpaaGreatDoor.Aw
open Go.RowKit Go.Lib Rc
set_option maxHeartbeats 8000000
set_option maxRecDepth 100000
def pd (k:Nat):Int:=(k:Int) - 1
theorem pd_ge {k:Nat}:decide (pd (k+1)≥0)=true:=decide_eq_true (by unfold pd;omega)
theorem pd_ge0 :decide (pd 0≥0)=false:=decide_eq_false (by unfold pd;omega)
theorem pd_nat {k:Nat}:(pd (k+1)).toNat=k:=by unfold pd;omega
theorem pd_le {k:Nat}:(0≤pd (k+1))=True:=eq_true (by unfold pd;omega)
theorem pd_lt {k n:Nat} (h:k<n):(pd (k+1)<(n:Int))=True:=eq_true (by unfold pd;omega)
theorem pd_wr {k:Nat} (h:k≤9223372036854775806):IntKind.i64.wrap (pd (k+1) - 1)=pd k:=by unfold pd;rw[IntWalk.i64_in _ (by omega)];omega
theorem pd_start {n:Nat} (h:n≤9223372036854775807):IntKind.i64.wrap ((n:Int) - 1)=pd n:=by unfold pd;rw[IntWalk.i64_in _ (by omega)]
theorem drop_at {α:Type} {l:List α} {i:Nat} {x:α} (h:l[i]? =some x):l.drop i=x::l.drop (i+1):=by
 have hlt:i<l.length:=(List.getElem?_eq_some_iff.1 h).1
 rw[List.drop_eq_getElem_cons hlt]
 rw[List.getElem?_eq_getElem hlt] at h
 rw[Option.some.inj h]
theorem take_at {α:Type} {l:List α} {i:Nat} {x:α} (h:l[i]? =some x):l.take (i+1)=l.take i++[x]:=by
 have hlt:i<l.length:=(List.getElem?_eq_some_iff.1 h).1
 rw[List.take_add_one,h]
 rfl
def trimM (l:List Int):List Int:=(l.reverse.dropWhile (· ==0)).reverse
theorem trim_snoc (l:List Int) (x:Int):trimM (l++[x])=if x==0 then trimM l else l++[x]:=by
 unfold trimM
 rw[List.reverse_append,List.reverse_singleton,List.singleton_append,List.dropWhile_cons]
 split
 · rfl
 · rw[List.reverse_cons,List.reverse_reverse]
theorem trim_con (l:List Int) (w:World):ConAt Tryz.prog w 56 (eL l) (.ro ((trimM l).map eI)) []:=by
 unfold eL
 refine con_of_aw (sp:=spN) (Φ:=fun _=>True) [] (fun w _=>spN_ok w) (by kernel_rfl) Tryz.func56 rfl ?_ w trivial
 intro hLen
 simp only[Tryz.ntmps56,List.length_cons,List.length_nil,Nat.reduceAdd,Nat.reduceSub,List.replicate_succ,List.replicate_zero,List.cons_append,List.nil_append]
 have hl:l.length≤9223372036854775807:=len_ro (x:=.dead) (hLen _ List.mem_cons_self)
 simp (maxSteps:=2000000) only[↓awA,awB,evA,envE,ofV,putE,listH,setRow,spl,oneP,guardB,frzA,mapO,allSc,closeA,shiftA,shiftR,flatA,flat0,scA,Row.len,fillW,rep,chunks,closed1,Value.oneCell',Nat.reduceAdd,reduceIte,reduceCtorEq,Nat.reduceLT,Nat.reduceLeDiff,Nat.reduceEqDiff,Nat.reduceSub,Nat.reduceMul,frz1,frzR,eq_self,and_self,tys,  Tryz.results56]
 refine aw_loop (fun k:Nat=>[.ro ((l.take k).map eI)]++deads 20) (fun _=>[]) (fun k=>k≤l.length∧trimM l=trimM (l.take k)) (fun k=>k) l.length ?_ ⟨Nat.le_refl _,by rw[List.take_length]⟩ ?_
 · simp[Weak,weakL,weakR,weakV,nilV,nilR,okA,listH,deads,pinR,isVarB,pin_pins]
 rintro k ⟨hk,hA⟩
 simp only[deads,List.replicate_succ,List.replicate_zero,List.cons_append,List.nil_append]
 have hlk:(l.take k).length=k:=by rw[List.length_take];omega
 cases k with
 |zero=>
  have c1:decide (((0:Nat):Int)>0)=false:=rfl
  rw[hA]
  simp (maxSteps:=2000000) only[↓awA,awB,evA,envE,ofV,putE,listH,setRow,spl,oneP,guardB,frzA,mapO,allSc,closeA,shiftA,shiftR,flatA,flat0,scA,Row.len,fillW,rep,chunks,closed1,Value.oneCell',Nat.reduceAdd,reduceIte,reduceCtorEq,Nat.reduceLT,Nat.reduceLeDiff,Nat.reduceEqDiff,Nat.reduceSub,Nat.reduceMul,frz1,frzR,eq_self,and_self,tys,  hlk,c1,Tryz.results56]
  rfl
 |succ k=>
  obtain⟨x,hx⟩:∃x,l[k]? =some x:=⟨_,List.getElem?_eq_getElem (by omega)⟩
  have hx2:(l.take (k+1))[k]? =some x:=by rw[List.getElem?_take_of_lt (by omega)];exact hx
  have e2:at_ ((l.take (k+1)).map eI) k=eI x:=at_some hx2
  have c1:decide (((k+1:Nat):Int)>0)=true:=decide_eq_true (by omega)
  have hw:=pd_start (n:=k+1) (by omega)
  have h3:=pd_lt (show k<k+1 by omega)
  rw[take_at hx,trim_snoc] at hA
  cases h0:(x==0)
  · rw[h0,if_neg (by simp),←take_at hx] at hA
    rw[hA]
    simp (maxSteps:=2000000) only[↓awA,awB,evA,envE,ofV,putE,listH,setRow,spl,oneP,guardB,frzA,mapO,allSc,closeA,shiftA,shiftR,flatA,flat0,scA,Row.len,fillW,rep,chunks,closed1,Value.oneCell',Nat.reduceAdd,reduceIte,reduceCtorEq,Nat.reduceLT,Nat.reduceLeDiff,Nat.reduceEqDiff,Nat.reduceSub,Nat.reduceMul,frz1,frzR,eq_self,and_self,tys,  hlk,c1,hw,pd_le,h3,pd_nat,e2,eI,h0,Tryz.results56]
  · rw[h0,if_pos rfl] at hA
    have h4:pd (k+1)≤((k+1:Nat):Int):=by unfold pd;omega
    have hsz:(∀e∈(l.take (k+1)).map eI,e.length=1)=True:=eq_true (fun e he=>by
     obtain⟨n, -,rfl⟩:=List.mem_map.1 he
     rfl)
    have ht:((l.take (k+1)).map eI).take k=(l.take k).map eI:=by
     rw[←List.map_take,List.take_take]
     congr 2
     omega
    have h00:(((0:Nat):Int)≤pd (k+1))=True:=eq_true (by unfold pd;omega)
    simp (maxSteps:=2000000) only[↓awA,awB,evA,envE,ofV,putE,listH,setRow,spl,oneP,guardB,frzA,mapO,allSc,closeA,shiftA,shiftR,flatA,flat0,scA,Row.len,fillW,rep,chunks,closed1,Value.oneCell',Nat.reduceAdd,reduceIte,reduceCtorEq,Nat.reduceLT,Nat.reduceLeDiff,Nat.reduceEqDiff,Nat.reduceSub,Nat.reduceMul,frz1,frzR,eq_self,and_self,tys,  hlk,c1,hw,pd_le,h3,h4,h00,pd_nat,e2,eI,h0,hsz,ht,Option.map_none]
    refine loopQ_next k ?_ ⟨by omega,hA⟩ (by omega)
    simp[Weak,weakL,weakR,weakV,nilV,nilR,okA,listH,deads,pinR,isVarB,pin_pins]
def eLn (x:List Int×Bool):List AV:=[.agg [.ro (x.1.map eI),.sc (.bool x.2)]]
theorem eLn_inj (x y:List Int×Bool) (h:eLn x=eLn y):x=y:=by
 unfold eLn at h
 simp only[List.cons.injEq,AV.agg.injEq,AV.ro.injEq,AV.sc.injEq,Value.bool.injEq,and_true] at h
 exact Prod.ext ((List.map_inj_right (fun a b hab=>eI_inj hab)).1 h.1) h.2
def fitV (x:List Int×Bool):Int×Bool:=match fitsM x.1.reverse 0 with
 |none=>(0,false)
 |some n=>if x.2||n==0 then(n,true) else if n== -9223372036854775808 then(0,false) else(-n,true)
theorem fits_con (x:List Int×Bool) (hd:∀d∈x.1,0≤d∧d<10) (w:World):ConAt Tryz.prog w 69 (eLn x) (.tup [.sc (.int .i64 (fitV x).1),.sc (.bool (fitV x).2)]) []:=by
 obtain⟨l,b⟩:=x
 unfold eLn
 simp only at hd
 refine con_of_aw (sp:=spN) (Φ:=fun _=>True) [] (fun w _=>spN_ok w) (by kernel_rfl) Tryz.func69 rfl ?_ w trivial
 intro hLen
 simp only[Tryz.ntmps69,List.length_cons,List.length_nil,Nat.reduceAdd,Nat.reduceSub,List.replicate_succ,List.replicate_zero,List.cons_append,List.nil_append]
 have hl:l.length≤9223372036854775807:=by
  have:=hLen _ List.mem_cons_self (.ro (l.map eI)) List.mem_cons_self
  have:=this.1
  rwa [List.length_map] at this
 have hst:=pd_start hl
 simp (maxSteps:=2000000) only[↓awA,awB,evA,envE,ofV,putE,listH,setRow,spl,oneP,guardB,frzA,mapO,allSc,closeA,shiftA,shiftR,flatA,flat0,scA,Row.len,fillW,rep,chunks,closed1,Value.oneCell',Nat.reduceAdd,reduceIte,reduceCtorEq,Nat.reduceLT,Nat.reduceLeDiff,Nat.reduceEqDiff,Nat.reduceSub,Nat.reduceMul,frz1,frzR,eq_self,and_self,tys,  hst,Tryz.results69]
 refine aw_loop (fun st:Nat×Int=>[.dead,.ptr 0 0,.dead,.dead,.sc (.int .i64 st.2),.sc (.int .i64 (pd st.1))]++deads 34) (fun _=>[.var [.ro (l.map eI),.sc (.bool b)] 92])
  (fun st=>st.1≤l.length∧fitsM l.reverse 0=fitsM (l.take st.1).reverse st.2∧ -9223372036854775808≤st.2∧st.2≤0) (fun st=>st.1) (l.length,0) ?_ ⟨Nat.le_refl _,by rw[List.take_length],by show (-9223372036854775808:Int)≤0;decide,Int.le_refl 0⟩ ?_
 · simp[Weak,weakL,weakR,weakV,nilV,nilR,okA,listH,deads,pinR,isVarB,pin_pins]
 rintro⟨k,n⟩ ⟨hk,hA,hn1,hn2⟩
 simp only at hk hA hn1 hn2
 simp only[deads,List.replicate_succ,List.replicate_zero,List.cons_append,List.nil_append]
 unfold fitV
 simp only
 cases k with
 |zero=>
  rw[hA,List.take_zero,List.reverse_nil,fitsM]
  simp only
  cases b
  · cases h0:(n==0)
    · cases hm:(n== -9223372036854775808)
      · have hneg:IntKind.i64.wrap (0 - n)= -n:=by
         have:=beq_eq_false_iff_ne.1 hm
         rw[IntWalk.i64_in _ (by omega)]
         omega
        simp (maxSteps:=2000000) only[↓awA,awB,evA,envE,ofV,putE,listH,setRow,spl,oneP,guardB,frzA,mapO,allSc,closeA,shiftA,shiftR,flatA,flat0,scA,Row.len,fillW,rep,chunks,closed1,Value.oneCell',Nat.reduceAdd,reduceIte,reduceCtorEq,Nat.reduceLT,Nat.reduceLeDiff,Nat.reduceEqDiff,Nat.reduceSub,Nat.reduceMul,frz1,frzR,eq_self,and_self,tys,  pd_ge0,h0,hm,hneg,Tryz.results69]
      · simp (maxSteps:=2000000) only[↓awA,awB,evA,envE,ofV,putE,listH,setRow,spl,oneP,guardB,frzA,mapO,allSc,closeA,shiftA,shiftR,flatA,flat0,scA,Row.len,fillW,rep,chunks,closed1,Value.oneCell',Nat.reduceAdd,reduceIte,reduceCtorEq,Nat.reduceLT,Nat.reduceLeDiff,Nat.reduceEqDiff,Nat.reduceSub,Nat.reduceMul,frz1,frzR,eq_self,and_self,tys,  pd_ge0,h0,hm,Tryz.results69]
    · simp (maxSteps:=2000000) only[↓awA,awB,evA,envE,ofV,putE,listH,setRow,spl,oneP,guardB,frzA,mapO,allSc,closeA,shiftA,shiftR,flatA,flat0,scA,Row.len,fillW,rep,chunks,closed1,Value.oneCell',Nat.reduceAdd,reduceIte,reduceCtorEq,Nat.reduceLT,Nat.reduceLeDiff,Nat.reduceEqDiff,Nat.reduceSub,Nat.reduceMul,frz1,frzR,eq_self,and_self,tys,  pd_ge0,h0,Tryz.results69]
  · simp (maxSteps:=2000000) only[↓awA,awB,evA,envE,ofV,putE,listH,setRow,spl,oneP,guardB,frzA,mapO,allSc,closeA,shiftA,shiftR,flatA,flat0,scA,Row.len,fillW,rep,chunks,closed1,Value.oneCell',Nat.reduceAdd,reduceIte,reduceCtorEq,Nat.reduceLT,Nat.reduceLeDiff,Nat.reduceEqDiff,Nat.reduceSub,Nat.reduceMul,frz1,frzR,eq_self,and_self,tys,  pd_ge0,Tryz.results69]
 |succ k=>
  obtain⟨x,hx⟩:∃x,l[k]? =some x:=⟨_,List.getElem?_eq_getElem (by omega)⟩
  have e2:at_ (l.map eI) k=eI x:=at_some hx
  have hdx:=hd x (List.mem_of_getElem? hx)
  have h3:=pd_lt (show k<l.length by omega)
  have hw:=pd_wr (k:=k) (by omega)
  have hw2:IntKind.i64.wrap (-9223372036854775808+x)= -9223372036854775808+x:=IntWalk.i64_in _ (by omega)
  have hq:(-9223372036854775808+x).tdiv 10= -((9223372036854775808 - x) / 10):=by
   have e:(-9223372036854775808+x)= -(9223372036854775808 - x):=by omega
   rw[e,Int.neg_tdiv,Int.tdiv_eq_ediv_of_nonneg (by omega)]
  have hw3:IntKind.i64.wrap ((-9223372036854775808+x).tdiv 10)=(-9223372036854775808+x).tdiv 10:=by
   rw[hq]
   exact IntWalk.i64_in _ (by omega)
  have h10:((10:Int)=0)=False:=by simp
  rw[take_at hx,List.reverse_append,List.reverse_singleton,List.singleton_append,fitsM] at hA
  cases hc:decide (n<(-9223372036854775808+x).tdiv 10)
  · have hc':=of_decide_eq_false hc
    rw[if_neg hc'] at hA
    rw[hq] at hc'
    have hw4:IntKind.i64.wrap (10*n)=10*n:=IntWalk.i64_in _ (by omega)
    have hw5:IntKind.i64.wrap (10*n - x)=10*n - x:=IntWalk.i64_in _ (by omega)
    simp (maxSteps:=2000000) only[↓awA,awB,evA,envE,ofV,putE,listH,setRow,spl,oneP,guardB,frzA,mapO,allSc,closeA,shiftA,shiftR,flatA,flat0,scA,Row.len,fillW,rep,chunks,closed1,Value.oneCell',Nat.reduceAdd,reduceIte,reduceCtorEq,Nat.reduceLT,Nat.reduceLeDiff,Nat.reduceEqDiff,Nat.reduceSub,Nat.reduceMul,frz1,frzR,eq_self,and_self,tys,  pd_ge,pd_le,h3,pd_nat,e2,eI,hw2,hw3,hw,hw4,hw5,h10,hc]
    refine loopQ_next (k,10*n - x) ?_ ⟨by show k≤_;omega,hA,by show _≤10*n - x;omega,by show 10*n - x≤0;omega⟩ (by show k<k+1;omega)
    simp[Weak,weakL,weakR,weakV,nilV,nilR,okA,listH,deads,pinR,isVarB,pin_pins]
  · have hc':=of_decide_eq_true hc
    rw[if_pos hc'] at hA
    rw[hA]
    simp (maxSteps:=2000000) only[↓awA,awB,evA,envE,ofV,putE,listH,setRow,spl,oneP,guardB,frzA,mapO,allSc,closeA,shiftA,shiftR,flatA,flat0,scA,Row.len,fillW,rep,chunks,closed1,Value.oneCell',Nat.reduceAdd,reduceIte,reduceCtorEq,Nat.reduceLT,Nat.reduceLeDiff,Nat.reduceEqDiff,Nat.reduceSub,Nat.reduceMul,frz1,frzR,eq_self,and_self,tys,  pd_ge,pd_le,h3,pd_nat,e2,eI,hw2,hw3,h10,hc,Tryz.results69]
noncomputable def spF :Spec:=spN.tell 69 (byE eLn (fun x=>∀d∈x.1,0≤d∧d<10) (fun x=>.tup [.sc (.int .i64 (fitV x).1),.sc (.bool (fitV x).2)]))
theorem spF_at {l:List Int} {b:Bool}:spF.call 69 [.agg [.ro (l.map eI),.sc (.bool b)]]=some ((∀d∈l,0≤d∧d<10),.tup [.sc (.int .i64 (fitV (l,b)).1),.sc (.bool (fitV (l,b)).2)],[]):=by
 unfold spF
 rw[tell_same]
 exact byE_eq eLn_inj (l,b)
theorem spF_ok (w:World) {fp:Nat→Prop}:SpecOk Tryz.prog spF w fp:=
 tell_ok (spN_ok w) (enters_of' Tryz.func69 (by kernel_rfl)) (byE_ok fun a h w _=>fits_con a h w)
theorem told_con (x:List Int×Bool) (hd:∀d∈x.1,0≤d∧d<10) (w:World):ConAt Tryz.prog w 55 (eLn x) (.tup [.sc (.int .i64 (toldM x.1.reverse x.2).1),.sc (.int .i64 (toldM x.1.reverse x.2).2)]) []:=by
 obtain⟨l,b⟩:=x
 simp only at hd
 have ht:toldM l.reverse b=if(fitV (l,b)).2 then((fitV (l,b)).1,0) else(0,60):=by
  unfold toldM fitV
  cases fitsM l.reverse 0 with
  |none=>rfl
  |some n=>
   simp only
   split
   · rfl
   · split<;>rfl
 unfold eLn
 simp only
 rw[ht]
 refine con_of_aw (sp:=spF) (Φ:=fun _=>True) [] (fun w _=>spF_ok w) (by kernel_rfl) Tryz.func55 rfl ?_ w trivial
 intro hLen
 simp only[Tryz.ntmps55,List.length_cons,List.length_nil,Nat.reduceAdd,Nat.reduceSub,List.replicate_succ,List.replicate_zero,List.cons_append,List.nil_append]
 have hd':=eq_true hd
 cases h:(fitV (l,b)).2
 · simp (maxSteps:=2000000) only[↓awA,awB,evA,envE,ofV,putE,listH,setRow,spl,oneP,guardB,frzA,mapO,allSc,closeA,shiftA,shiftR,flatA,flat0,scA,Row.len,fillW,rep,chunks,closed1,Value.oneCell',Nat.reduceAdd,reduceIte,reduceCtorEq,Nat.reduceLT,Nat.reduceLeDiff,Nat.reduceEqDiff,Nat.reduceSub,Nat.reduceMul,frz1,frzR,eq_self,and_self,tys,  spF_at,hd',h,Tryz.results55]
 · simp (maxSteps:=2000000) only[↓awA,awB,evA,envE,ofV,putE,listH,setRow,spl,oneP,guardB,frzA,mapO,allSc,closeA,shiftA,shiftR,flatA,flat0,scA,Row.len,fillW,rep,chunks,closed1,Value.oneCell',Nat.reduceAdd,reduceIte,reduceCtorEq,Nat.reduceLT,Nat.reduceLeDiff,Nat.reduceEqDiff,Nat.reduceSub,Nat.reduceMul,frz1,frzR,eq_self,and_self,tys,  spF_at,hd',h,Tryz.results55]
end Go.Proofs.YtpjodoipceddpaaGreatDoor.Aw
