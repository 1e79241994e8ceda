/- Traces: a record's line, to the program, walked abstractly. -/
import Derived.Test.YtpjodoipceddpaaGreatDoorRecVx
import Derived.Test.YtpjodoipceddpaaGreatDoorRecK
namespace Go.Proofs.YtpjodoipceddpaaGreatDoor.Aw
open Go.RowKit Go.Lib Rc
set_option maxHeartbeats 8000000
set_option maxRecDepth 100000
def wordsA :AV:=.agg [.sc (.string ⟨#[]⟩),.sc (.string ⟨#[]⟩),.sc (.string ⟨#[]⟩),.sc (.string ⟨#[101,120,105,116]⟩),.sc (.string ⟨#[101,102,102,101,99,116]⟩),.sc (.string ⟨#[101,110,116,101,114]⟩),.sc (.string ⟨#[108,111,111,107]⟩),.sc (.string ⟨#[111,118,101,114]⟩),.sc (.string ⟨#[101,118,101,110,116]⟩),.sc (.string ⟨#[102,105,114,101]⟩),.sc (.string ⟨#[100,101,102,101,114]⟩),.sc (.string ⟨#[100,114,111,112]⟩),.sc (.string ⟨#[114,101,115,116]⟩),.sc (.string ⟨#[102,97,117,108,116]⟩)]
def kindsA :AV:=.agg [.sc (.string ⟨#[]⟩),.sc (.string ⟨#[100,111,110,101]⟩),.sc (.string ⟨#[99,97,108,108]⟩),.sc (.string ⟨#[116,105,109,101]⟩)]
theorem words_con (w:World):ConAt Tryz.prog w 41 [] wordsA []:=by
 unfold wordsA
 refine con_of_aw (sp:=spN) (Φ:=fun _=>True) [] (fun w _=>spN_ok w) (by kernel_rfl) Tryz.func41 rfl ?_ w trivial
 intro hLen
 simp only[Tryz.ntmps41,List.length_cons,List.length_nil,Nat.reduceAdd,Nat.reduceSub,List.replicate_succ,List.replicate_zero,List.cons_append,List.nil_append]
 simp (maxSteps:=2000000) only[↓awA,awB,evA,envE,ofV,putE,listH,setRow,spl,oneP,guardB,frzA,mapO,allSc,closeA,shiftA,shiftR,flatA,flat0,scA,Row.len,fillW,rep,chunks,closed1,Value.oneCell',Nat.reduceAdd,reduceIte,reduceCtorEq,Nat.reduceLT,Nat.reduceLeDiff,Nat.reduceEqDiff,Nat.reduceSub,Nat.reduceMul,frz1,frzR,eq_self,and_self,tys,  Tryz.results41]
theorem kinds_con (w:World):ConAt Tryz.prog w 44 [] kindsA []:=by
 unfold kindsA
 refine con_of_aw (sp:=spN) (Φ:=fun _=>True) [] (fun w _=>spN_ok w) (by kernel_rfl) Tryz.func44 rfl ?_ w trivial
 intro hLen
 simp only[Tryz.ntmps44,List.length_cons,List.length_nil,Nat.reduceAdd,Nat.reduceSub,List.replicate_succ,List.replicate_zero,List.cons_append,List.nil_append]
 simp (maxSteps:=2000000) only[↓awA,awB,evA,envE,ofV,putE,listH,setRow,spl,oneP,guardB,frzA,mapO,allSc,closeA,shiftA,shiftR,flatA,flat0,scA,Row.len,fillW,rep,chunks,closed1,Value.oneCell',Nat.reduceAdd,reduceIte,reduceCtorEq,Nat.reduceLT,Nat.reduceLeDiff,Nat.reduceEqDiff,Nat.reduceSub,Nat.reduceMul,frz1,frzR,eq_self,and_self,tys,  Tryz.results44]
noncomputable def spX :Spec:=spN.tell 48 (byE eI In1 (fun n=>.sc (.string (bt (itoa n)))))
theorem spX_put {n:Int}:spX.call 48 [.sc (.int .i64 n)]=some (In1 n,.sc (.string (bt (itoa n))),[]):=by
 unfold spX
 rw[tell_same]
 exact byE_eq (fun _ _=>eI_inj) n
theorem spX_ok (w:World) (hst:TrSt w):SpecOk Tryz.prog spX w (fun _=>False):=
 tell_ok (spN_ok w) (enters_of' Tryz.func48 (by kernel_rfl)) (byE_ok fun a h w' hf=>put_con a h.1 h.2 w' (hst.fr hf))
theorem spX_lit :(spX.lit=true)=False:=eq_false (fun h=>by cases h)
def numsB (l:List Int):List (List AV):=((l.map itoa).map bt).map eS
theorem numsB_len (l:List Int):(numsB l).length=l.length:=by unfold numsB;simp
theorem numbers_con (l:List Int) (hf:∀n∈l,In1 n) (hl:l.length≤1000000) (w:World) (hst:TrSt w):ConAt Tryz.prog w 49 (eL l) (.ro (numsB l)) []:=by
 unfold eL
 refine con_of_aw (sp:=spX) (Φ:=TrSt) [] (fun w h=>spX_ok w h) (by kernel_rfl) Tryz.func49 rfl ?_ w hst
 intro hLen
 simp only[Tryz.ntmps49,List.length_cons,List.length_nil,Nat.reduceAdd,Nat.reduceSub,List.replicate_succ,List.replicate_zero,List.cons_append,List.nil_append]
 simp (maxSteps:=2000000) only[↓awA,awB,evA,envE,ofV,putE,listH,setRow,spl,oneP,guardB,frzA,mapO,allSc,closeA,shiftA,shiftR,flatA,flat0,scA,Row.len,fillW,rep,chunks,closed1,Value.oneCell',Nat.reduceAdd,reduceIte,reduceCtorEq,Nat.reduceLT,Nat.reduceLeDiff,Nat.reduceEqDiff,Nat.reduceSub,Nat.reduceMul,frz1,frzR,eq_self,and_self,tys,  Tryz.results49]
 refine aw_loop (fun i:Nat=>[.dead,.dead,.dead,.sl 0 (numsB (l.take i)).length,.dead,.dead,.ro (l.map eI),.sc (.int .i64 (l.length:Int)),.sc (.int .i64 (i:Int))]++deads 10) (fun i=>[.lst 1 (numsB (l.take i)) 9])
  (fun i=>i≤l.length) (fun i=>l.length - i) 0 ?_ (Nat.zero_le _) ?_ (fun _ _=>trivial)
 · simp[Weak,weakL,weakR,weakV,nilV,nilR,okA,listH,deads,pinR,isVarB,pin_pins,  numsB]
 intro i hi
 simp only[deads,List.replicate_succ,List.replicate_zero,List.cons_append,List.nil_append]
 by_cases hlt:i<l.length
 · obtain⟨x,hx⟩:∃x,l[i]? =some x:=⟨_,List.getElem?_eq_getElem hlt⟩
   have e2:at_ (l.map eI) i=eI x:=at_some hx
   have hxi:=hf x (List.mem_of_getElem? hx)
   have hw:=wr_lt hlt (by omega)
   have hsn:numsB (l.take i)++[[.sc (.string (bt (itoa x)))]]=numsB (l.take (i+1)):=by
    unfold numsB
    rw[take_at hx,List.map_append,List.map_append,List.map_append]
    rfl
   have hln:(numsB (l.take i)).length+1=(numsB (l.take (i+1))).length:=by
    rw[←hsn,List.length_append]
    rfl
   have hb:(numsB (l.take (i+1))).length*16≤140737488355328:=by
    rw[numsB_len,List.length_take]
    omega
   simp (maxSteps:=2000000) only[↓awA,awB,evA,envE,ofV,putE,listH,setRow,spl,oneP,guardB,frzA,mapO,allSc,closeA,shiftA,shiftR,flatA,flat0,scA,Row.len,fillW,rep,chunks,closed1,Value.oneCell',Nat.reduceAdd,reduceIte,reduceCtorEq,Nat.reduceLT,Nat.reduceLeDiff,Nat.reduceEqDiff,Nat.reduceSub,Nat.reduceMul,frz1,frzR,eq_self,and_self,tys,  hlt,e2,eI,spX_put,hxi,spX_lit,hsn,hln,hb]
   refine loopQ_next (i+1) ?_ hlt (by omega)
   simp[Weak,weakL,weakR,weakV,nilV,nilR,okA,listH,deads,pinR,isVarB,pin_pins,  hw]
 · have htl:l.take i=l:=List.take_of_length_le (by omega)
   simp (maxSteps:=2000000) only[↓awA,awB,evA,envE,ofV,putE,listH,setRow,spl,oneP,guardB,frzA,mapO,allSc,closeA,shiftA,shiftR,flatA,flat0,scA,Row.len,fillW,rep,chunks,closed1,Value.oneCell',Nat.reduceAdd,reduceIte,reduceCtorEq,Nat.reduceLT,Nat.reduceLeDiff,Nat.reduceEqDiff,Nat.reduceSub,Nat.reduceMul,frz1,frzR,eq_self,and_self,tys,  hlt,htl,Tryz.results49]
end Go.Proofs.YtpjodoipceddpaaGreatDoor.Aw
namespace Go.Proofs.YtpjodoipceddpaaGreatDoor.Aw
open Go.RowKit Go.Lib Rc
set_option maxHeartbeats 8000000
set_option maxRecDepth 100000
noncomputable def spY :Spec:=(((spX.tell 41 (byE (fun _:Unit=>[]) (fun _=>True) (fun _=>wordsA))).tell 44 (byE (fun _:Unit=>[]) (fun _=>True) (fun _=>kindsA))).tell
 49 (byE eL (fun l=>(∀n∈l,In1 n)∧l.length≤1000000) (fun l=>.ro (numsB l)))).tell 50 (byE eJ (fun l=>l.length≤1000000∧(join l [32]).length≤1000000000) (fun l=>.sc (.string (bt (join l [32])))))
theorem spY_put {n:Int}:spY.call 48 [.sc (.int .i64 n)]=some (In1 n,.sc (.string (bt (itoa n))),[]):=by
 unfold spY
 rw[tell_ne (by rfl),tell_ne (by rfl),tell_ne (by rfl),tell_ne (by rfl)]
 exact spX_put
theorem spY_words :spY.call 41 []=some (True,wordsA,[]):=by
 unfold spY
 rw[tell_ne (by rfl),tell_ne (by rfl),tell_ne (by rfl),tell_same]
 exact byE_eq (fun _ _ _=>rfl) ()
theorem spY_kinds :spY.call 44 []=some (True,kindsA,[]):=by
 unfold spY
 rw[tell_ne (by rfl),tell_ne (by rfl),tell_same]
 exact byE_eq (fun _ _ _=>rfl) ()
theorem spY_numbers {l:List Int}:spY.call 49 [.ro (l.map eI)]=some (((∀n∈l,In1 n)∧l.length≤1000000),.ro (numsB l),[]):=by
 unfold spY
 rw[tell_ne (by rfl),tell_same]
 exact byE_eq eL_inj l
theorem spY_numbers1 {a:Int} {l:List Int}:spY.call 49 [.ro ([.sc (.int .i64 a)]::l.map eI)]=some (((∀n∈a::l,In1 n)∧(a::l).length≤1000000),.ro (numsB (a::l)),[]):=spY_numbers (l:=a::l)
theorem spY_numbers2 {a:Int}:spY.call 49 [.ro [[.sc (.int .i64 a)]]]=some (((∀n∈[a],In1 n)∧[a].length≤1000000),.ro (numsB [a]),[]):=spY_numbers (l:=[a])
theorem spY_join {l:List T}:spY.call 50 [.ro (litS l),.sc (.string ⟨#[32]⟩)]=some ((l.length≤1000000∧(join l [32]).length≤1000000000),.sc (.string (bt (join l [32]))),[]):=by
 unfold spY
 rw[tell_same]
 exact byE_eq eJ_inj l
theorem spY_ok (w:World) (hst:TrSt w):SpecOk Tryz.prog spY w (fun _=>False):=
 tell_ok (tell_ok (tell_ok (tell_ok (spX_ok w hst) (enters_of' Tryz.func41 (by kernel_rfl)) (byE_ok fun a _ w' _=>words_con w')) (enters_of' Tryz.func44 (by kernel_rfl)) (byE_ok fun a _ w' _=>kinds_con w'))
  (enters_of' Tryz.func49 (by kernel_rfl)) (byE_ok fun a h w' hf=>numbers_con a h.1 h.2 w' (hst.fr hf))) (enters_of' Tryz.func50 (by kernel_rfl)) (byE_ok fun a h w' _=>join_con a h.1 h.2 w')
theorem spY_lit :(spY.lit=true)=False:=eq_false (fun h=>by cases h)
theorem spY_pins :(spY.pins=0)=True:=eq_true rfl
theorem lens_le :∀l:List T,(∀x∈l,x.length≤1000)→lens l≤1000*l.length
 |[],_=>by simp[lens]
 |y::l,h=>by
  have h4:=h y List.mem_cons_self
  have h5:=lens_le l (fun z hz=>h z (List.mem_cons_of_mem _ hz))
  unfold lens at h5⊢
  rw[List.map_cons,List.sum_cons,List.length_cons]
  omega
theorem line_con (r:RecM) (hm:May nmB r) (h64:In64 r) (hl:r.list.length≤1000) (hn:r.name.length≤1000) (w:World) (hst:TrSt w):ConAt Tryz.prog w 24 (eR r) (.sc (.string (bt (textM r++[10])))) []:=by
 have hR:=Tryz.results24
 have h10:(⟨#[10]⟩:ByteArray)=bt [10]:=rfl
 have app:∀x y:T,bt x++bt y=bt (x++y):=bt_app
 have hz2:(0:Int)≤0:=Int.le_refl 0
 have hz:Int.toNat 0=0:=rfl
 have fin:∀W:List T,W.length≤10000→(∀x∈W,x.length≤1000)→W.length≤1000000∧(join W [32]).length≤1000000000∧(bt (join W [32])).size+(bt [10]).size≤9223372036854775807:=fun W h1 h2=>by
  have h3:(join W [32]).length≤1001*W.length:=by
   cases W with
   |nil=>simp[join_nil]
   |cons x W=>
    have:=lens_le (x::W) h2
    rw[join_length,List.length_singleton]
    rw[List.length_cons] at this⊢
    omega
  refine⟨by omega,by omega, ?_⟩
  rw[size_bt,size_bt]
  simp
  omega
 cases hm with
 |call n a hnm=>
  have ha:In1 a:=h64.a
  have hlen:=itoa_len ha.1 ha.2
  have hne:n≠[]:=nmOk.ne n hnm
  simp only at hn
  have hE:decide (bt n=⟨#[]⟩)=false:=by rw[isEmpty_dec,list_bt];exact decide_eq_false hne
  obtain⟨W,hW⟩:∃W,W=[Rc.opW 8,kindW 2,n,itoa a]:=⟨_,rfl⟩
  have ht:textM ⟨8,0,n,a,[2]⟩=join W [32]:=by
   rw[hW]
   unfold textM wordsM
   simp only[if_true,List.getD_cons_zero]
   rw[if_pos hne]
  obtain⟨f1,f2,f3⟩:=fin W (by rw[hW];simp) (by
   rw[hW]
   intro x hx
   simp only[List.mem_cons,List.not_mem_nil,or_false] at hx
   rcases hx with rfl|rfl|rfl|rfl
   · decide
   · decide
   · exact hn
   · omega)
  unfold eR cR
  refine con_of_aw (sp:=spY) (Φ:=TrSt) [(14,frzM [1])] (fun w h=>spY_ok w h) (by kernel_rfl) Tryz.func24 rfl ?_ w hst
  intro hLen
  simp only[Tryz.ntmps24,List.length_cons,List.length_nil,Nat.reduceAdd,Nat.reduceSub,List.replicate_succ,List.replicate_zero,List.cons_append,List.nil_append]
  rw[ht]
  have c8:(((8:Nat):Int)==8)=true:=rfl
  have e8:(⟨#[101,118,101,110,116]⟩:ByteArray)=bt (Rc.opW 8):=rfl
  have ek:(⟨#[99,97,108,108]⟩:ByteArray)=bt (kindW 2):=rfl
  have hJ:[[AV.sc (.string (bt (Rc.opW 8)))],[AV.sc (.string (bt (kindW 2)))],[AV.sc (.string (bt n))],[AV.sc (.string (bt (itoa a)))]]=litS W:=by rw[hW];rfl
  have hx:Int.toNat 2=2:=rfl
  have hx2:(0:Int)≤2:=by decide
  simp (maxSteps:=2000000) only[↓awA,awB,evA,envE,ofV,putE,listH,setRow,spl,oneP,guardB,frzA,mapO,allSc,closeA,shiftA,shiftR,flatA,flat0,scA,Row.len,fillW,rep,chunks,closed1,Value.oneCell',Nat.reduceAdd,reduceIte,reduceCtorEq,Nat.reduceLT,Nat.reduceLeDiff,Nat.reduceEqDiff,Nat.reduceSub,Nat.reduceMul,frz1,frzR,eq_self,and_self,tys,  at_,spY_words,wordsA,spY_kinds,kindsA,spY_lit,spY_pins,c8,hx,hx2,e8,ek,eI,hz,hz2,hE,spY_put,ha,hJ,spY_join,f1,f2,f3,h10,app,hR]
  repeat (refine And.intro (by first|exact Dr_of (by kernel_rfl)|decide) ?_)
  exact Dr_of (by kernel_rfl)
 |event k a hk hpl=>
  have ha:In1 a:=place_fit hpl
  have hlen:=itoa_len ha.1 ha.2
  obtain⟨W,hW⟩:∃W,W=[Rc.opW 8,kindW k,itoa a]:=⟨_,rfl⟩
  have ht:textM ⟨8,a,[],0,[k]⟩=join W [32]:=by
   rw[hW]
   unfold textM wordsM
   simp only[if_true,List.getD_cons_zero]
   rw[if_neg (show ¬(([]:T)≠[]) by simp)]
  obtain⟨f1,f2,f3⟩:=fin W (by rw[hW];simp) (by
   rw[hW]
   intro x hx
   simp only[List.mem_cons,List.not_mem_nil,or_false] at hx
   rcases hx with rfl|rfl|rfl
   · decide
   · rcases hk with rfl|rfl<;>decide
   · omega)
  have hE:decide (bt ([]:T)=⟨#[]⟩)=true:=by rw[isEmpty_dec,list_bt];rfl
  have hw2:(∀c∈numsB [a],c.length=1)=True:=eq_true (fun e he=>by
   unfold numsB at he
   obtain⟨n, -,rfl⟩:=List.mem_map.1 he
   rfl)
  have hna:numsB [a]=[[AV.sc (.string (bt (itoa a)))]]:=rfl
  unfold eR cR
  refine con_of_aw (sp:=spY) (Φ:=TrSt) [(8,frzI 4 [3]),(14,frzM [1])] (fun w h=>spY_ok w h) (by kernel_rfl) Tryz.func24 rfl ?_ w hst
  intro hLen
  simp only[Tryz.ntmps24,List.length_cons,List.length_nil,Nat.reduceAdd,Nat.reduceSub,List.replicate_succ,List.replicate_zero,List.cons_append,List.nil_append]
  rw[ht]
  have c8:(((8:Nat):Int)==8)=true:=rfl
  have e8:(⟨#[101,118,101,110,116]⟩:ByteArray)=bt (Rc.opW 8):=rfl
  rcases hk with rfl|rfl
  · have ek:(⟨#[100,111,110,101]⟩:ByteArray)=bt (kindW 1):=rfl
    have hJ:[[AV.sc (.string (bt (Rc.opW 8)))],[AV.sc (.string (bt (kindW 1)))],[AV.sc (.string (bt (itoa a)))]]=litS W:=by rw[hW];rfl
    have hx:Int.toNat 1=1:=rfl
    have hx2:(0:Int)≤1:=by decide
    simp (maxSteps:=2000000) only[↓awA,awB,evA,envE,ofV,putE,listH,setRow,spl,oneP,guardB,frzA,mapO,allSc,closeA,shiftA,shiftR,flatA,flat0,scA,Row.len,fillW,rep,chunks,closed1,Value.oneCell',Nat.reduceAdd,reduceIte,reduceCtorEq,Nat.reduceLT,Nat.reduceLeDiff,Nat.reduceEqDiff,Nat.reduceSub,Nat.reduceMul,frz1,frzR,eq_self,and_self,tys,  at_,spY_words,wordsA,spY_kinds,kindsA,spY_lit,spY_pins,c8,hx,hx2,e8,ek,eI,hz,hz2,hE,spY_numbers2,hna,ha,hw2,hJ,spY_join,f1,f2,f3,h10,app,hR]
    repeat (refine And.intro (by first|exact Dr_of (by kernel_rfl)|decide) ?_)
    first|exact Dr_of (by kernel_rfl)|decide
  · have ek:(⟨#[116,105,109,101]⟩:ByteArray)=bt (kindW 3):=rfl
    have hJ:[[AV.sc (.string (bt (Rc.opW 8)))],[AV.sc (.string (bt (kindW 3)))],[AV.sc (.string (bt (itoa a)))]]=litS W:=by rw[hW];rfl
    have hx:Int.toNat 3=3:=rfl
    have hx2:(0:Int)≤3:=by decide
    simp (maxSteps:=2000000) only[↓awA,awB,evA,envE,ofV,putE,listH,setRow,spl,oneP,guardB,frzA,mapO,allSc,closeA,shiftA,shiftR,flatA,flat0,scA,Row.len,fillW,rep,chunks,closed1,Value.oneCell',Nat.reduceAdd,reduceIte,reduceCtorEq,Nat.reduceLT,Nat.reduceLeDiff,Nat.reduceEqDiff,Nat.reduceSub,Nat.reduceMul,frz1,frzR,eq_self,and_self,tys,  at_,spY_words,wordsA,spY_kinds,kindsA,spY_lit,spY_pins,c8,hx,hx2,e8,ek,eI,hz,hz2,hE,spY_numbers2,hna,ha,hw2,hJ,spY_join,f1,f2,f3,h10,app,hR]
    repeat (refine And.intro (by first|exact Dr_of (by kernel_rfl)|decide) ?_)
    first|exact Dr_of (by kernel_rfl)|decide
 |plain o a l ho hf=>
  have hfl:(∀n∈l,In1 n)=True:=eq_true (fun n hn=>hf n (List.mem_cons_of_mem _ hn))
  have ha:In1 a:=hf a List.mem_cons_self
  simp only at hl
  have hll:l.length≤999999:=by omega
  have hw1:(∀c∈l.map eI,c.length=1)=True:=eq_true (fun e he=>by
   obtain⟨n, -,rfl⟩:=List.mem_map.1 he
   rfl)
  have hw2:(∀c∈numsB (a::l),c.length=1)=True:=eq_true (fun e he=>by
   unfold numsB at he
   obtain⟨n, -,rfl⟩:=List.mem_map.1 he
   rfl)
  have hb1:(1+l.length)*8≤140737488355328:=by omega
  have hb2:(1+(numsB (a::l)).length)*16≤140737488355328:=by rw[numsB_len,List.length_cons];omega
  have htx:∀o:Nat,o=3∨o=4∨o=5∨o=6∨o=7∨o=13→textM ⟨o,a,[],0,l⟩=join (Rc.opW o::(a::l).map itoa) [32]:=fun o ho=>by
   unfold textM wordsM
   simp only
   rw[if_neg (by omega),if_neg (by omega),if_neg (by omega)]
   rfl
  obtain⟨W,hW⟩:∃W,W=Rc.opW o::(a::l).map itoa:=⟨_,rfl⟩
  have ht:=htx o ho
  rw[←hW] at ht
  have hJ:[AV.sc (.string (bt (Rc.opW o)))]::numsB (a::l)=litS W:=by rw[hW];rfl
  obtain⟨f1,f2,f3⟩:=fin W (by rw[hW];simp;omega) (by
   rw[hW]
   intro x hx
   rw[List.mem_cons] at hx
   rcases hx with rfl|hx
   · rcases ho with rfl|rfl|rfl|rfl|rfl|rfl<;>decide
   · obtain⟨n,hn,rfl⟩:=List.mem_map.1 hx
     have:=itoa_len (hf n hn).1 (hf n hn).2
     omega)
  unfold eR cR
  refine con_of_aw (sp:=spY) (Φ:=TrSt) [(3,frzI 7 [2]),(14,frzM [1])] (fun w h=>spY_ok w h) (by kernel_rfl) Tryz.func24 rfl ?_ w hst
  intro hLen
  simp only[Tryz.ntmps24,List.length_cons,List.length_nil,Nat.reduceAdd,Nat.reduceSub,List.replicate_succ,List.replicate_zero,List.cons_append,List.nil_append]
  rw[ht]
  rcases ho with rfl|rfl|rfl|rfl|rfl|rfl
  · have e8:(⟨#[101,120,105,116]⟩:ByteArray)=bt (Rc.opW 3):=rfl
    have c8:(((3:Nat):Int)==8)=false:=rfl
    have c9:(((3:Nat):Int)==9)=false:=rfl
    have c12:(((3:Nat):Int)==12)=false:=rfl
    have c10:(((3:Nat):Int)==10)=false:=rfl
    have c11:(((3:Nat):Int)==11)=false:=rfl
    simp (maxSteps:=2000000) only[↓awA,awB,evA,envE,ofV,putE,listH,setRow,spl,oneP,guardB,frzA,mapO,allSc,closeA,shiftA,shiftR,flatA,flat0,scA,Row.len,fillW,rep,chunks,closed1,Value.oneCell',Nat.reduceAdd,reduceIte,reduceCtorEq,Nat.reduceLT,Nat.reduceLeDiff,Nat.reduceEqDiff,Nat.reduceSub,Nat.reduceMul,frz1,frzR,eq_self,and_self,tys,  spY_words,wordsA,spY_lit,spY_pins,c8,c9,c12,c10,c11,e8,spY_numbers1,hfl,ha,hll,hw1,hw2,hb1,hb2,hJ,spY_join,f1,f2,f3,h10,app,hR]
    exact Dr_of (by kernel_rfl)
  · have e8:(⟨#[101,102,102,101,99,116]⟩:ByteArray)=bt (Rc.opW 4):=rfl
    have c8:(((4:Nat):Int)==8)=false:=rfl
    have c9:(((4:Nat):Int)==9)=false:=rfl
    have c12:(((4:Nat):Int)==12)=false:=rfl
    have c10:(((4:Nat):Int)==10)=false:=rfl
    have c11:(((4:Nat):Int)==11)=false:=rfl
    simp (maxSteps:=2000000) only[↓awA,awB,evA,envE,ofV,putE,listH,setRow,spl,oneP,guardB,frzA,mapO,allSc,closeA,shiftA,shiftR,flatA,flat0,scA,Row.len,fillW,rep,chunks,closed1,Value.oneCell',Nat.reduceAdd,reduceIte,reduceCtorEq,Nat.reduceLT,Nat.reduceLeDiff,Nat.reduceEqDiff,Nat.reduceSub,Nat.reduceMul,frz1,frzR,eq_self,and_self,tys,  spY_words,wordsA,spY_lit,spY_pins,c8,c9,c12,c10,c11,e8,spY_numbers1,hfl,ha,hll,hw1,hw2,hb1,hb2,hJ,spY_join,f1,f2,f3,h10,app,hR]
    exact Dr_of (by kernel_rfl)
  · have e8:(⟨#[101,110,116,101,114]⟩:ByteArray)=bt (Rc.opW 5):=rfl
    have c8:(((5:Nat):Int)==8)=false:=rfl
    have c9:(((5:Nat):Int)==9)=false:=rfl
    have c12:(((5:Nat):Int)==12)=false:=rfl
    have c10:(((5:Nat):Int)==10)=false:=rfl
    have c11:(((5:Nat):Int)==11)=false:=rfl
    simp (maxSteps:=2000000) only[↓awA,awB,evA,envE,ofV,putE,listH,setRow,spl,oneP,guardB,frzA,mapO,allSc,closeA,shiftA,shiftR,flatA,flat0,scA,Row.len,fillW,rep,chunks,closed1,Value.oneCell',Nat.reduceAdd,reduceIte,reduceCtorEq,Nat.reduceLT,Nat.reduceLeDiff,Nat.reduceEqDiff,Nat.reduceSub,Nat.reduceMul,frz1,frzR,eq_self,and_self,tys,  spY_words,wordsA,spY_lit,spY_pins,c8,c9,c12,c10,c11,e8,spY_numbers1,hfl,ha,hll,hw1,hw2,hb1,hb2,hJ,spY_join,f1,f2,f3,h10,app,hR]
    exact Dr_of (by kernel_rfl)
  · have e8:(⟨#[108,111,111,107]⟩:ByteArray)=bt (Rc.opW 6):=rfl
    have c8:(((6:Nat):Int)==8)=false:=rfl
    have c9:(((6:Nat):Int)==9)=false:=rfl
    have c12:(((6:Nat):Int)==12)=false:=rfl
    have c10:(((6:Nat):Int)==10)=false:=rfl
    have c11:(((6:Nat):Int)==11)=false:=rfl
    simp (maxSteps:=2000000) only[↓awA,awB,evA,envE,ofV,putE,listH,setRow,spl,oneP,guardB,frzA,mapO,allSc,closeA,shiftA,shiftR,flatA,flat0,scA,Row.len,fillW,rep,chunks,closed1,Value.oneCell',Nat.reduceAdd,reduceIte,reduceCtorEq,Nat.reduceLT,Nat.reduceLeDiff,Nat.reduceEqDiff,Nat.reduceSub,Nat.reduceMul,frz1,frzR,eq_self,and_self,tys,  spY_words,wordsA,spY_lit,spY_pins,c8,c9,c12,c10,c11,e8,spY_numbers1,hfl,ha,hll,hw1,hw2,hb1,hb2,hJ,spY_join,f1,f2,f3,h10,app,hR]
    exact Dr_of (by kernel_rfl)
  · have e8:(⟨#[111,118,101,114]⟩:ByteArray)=bt (Rc.opW 7):=rfl
    have c8:(((7:Nat):Int)==8)=false:=rfl
    have c9:(((7:Nat):Int)==9)=false:=rfl
    have c12:(((7:Nat):Int)==12)=false:=rfl
    have c10:(((7:Nat):Int)==10)=false:=rfl
    have c11:(((7:Nat):Int)==11)=false:=rfl
    simp (maxSteps:=2000000) only[↓awA,awB,evA,envE,ofV,putE,listH,setRow,spl,oneP,guardB,frzA,mapO,allSc,closeA,shiftA,shiftR,flatA,flat0,scA,Row.len,fillW,rep,chunks,closed1,Value.oneCell',Nat.reduceAdd,reduceIte,reduceCtorEq,Nat.reduceLT,Nat.reduceLeDiff,Nat.reduceEqDiff,Nat.reduceSub,Nat.reduceMul,frz1,frzR,eq_self,and_self,tys,  spY_words,wordsA,spY_lit,spY_pins,c8,c9,c12,c10,c11,e8,spY_numbers1,hfl,ha,hll,hw1,hw2,hb1,hb2,hJ,spY_join,f1,f2,f3,h10,app,hR]
    exact Dr_of (by kernel_rfl)
  · have e8:(⟨#[102,97,117,108,116]⟩:ByteArray)=bt (Rc.opW 13):=rfl
    have c8:(((13:Nat):Int)==8)=false:=rfl
    have c9:(((13:Nat):Int)==9)=false:=rfl
    have c12:(((13:Nat):Int)==12)=false:=rfl
    have c10:(((13:Nat):Int)==10)=false:=rfl
    have c11:(((13:Nat):Int)==11)=false:=rfl
    simp (maxSteps:=2000000) only[↓awA,awB,evA,envE,ofV,putE,listH,setRow,spl,oneP,guardB,frzA,mapO,allSc,closeA,shiftA,shiftR,flatA,flat0,scA,Row.len,fillW,rep,chunks,closed1,Value.oneCell',Nat.reduceAdd,reduceIte,reduceCtorEq,Nat.reduceLT,Nat.reduceLeDiff,Nat.reduceEqDiff,Nat.reduceSub,Nat.reduceMul,frz1,frzR,eq_self,and_self,tys,  spY_words,wordsA,spY_lit,spY_pins,c8,c9,c12,c10,c11,e8,spY_numbers1,hfl,ha,hll,hw1,hw2,hb1,hb2,hJ,spY_join,f1,f2,f3,h10,app,hR]
    exact Dr_of (by kernel_rfl)
 |list o l ho hf=>
  have hfl:(∀n∈l,In1 n)=True:=eq_true hf
  simp only at hl
  have hll:l.length≤1000000:=by omega
  have hw2:(∀c∈numsB l,c.length=1)=True:=eq_true (fun e he=>by
   unfold numsB at he
   obtain⟨n, -,rfl⟩:=List.mem_map.1 he
   rfl)
  have hb2:(1+(numsB l).length)*16≤140737488355328:=by rw[numsB_len];omega
  obtain⟨W,hW⟩:∃W,W=Rc.opW o::l.map itoa:=⟨_,rfl⟩
  have ht:textM ⟨o,0,[],0,l⟩=join W [32]:=by
   rw[hW]
   unfold textM wordsM
   simp only
   rw[if_neg (by omega),if_pos ho]
  have hJ:[AV.sc (.string (bt (Rc.opW o)))]::numsB l=litS W:=by rw[hW];rfl
  obtain⟨f1,f2,f3⟩:=fin W (by rw[hW];simp;omega) (by
   rw[hW]
   intro x hx
   rw[List.mem_cons] at hx
   rcases hx with rfl|hx
   · rcases ho with rfl|rfl<;>decide
   · obtain⟨n,hn,rfl⟩:=List.mem_map.1 hx
     have:=itoa_len (hf n hn).1 (hf n hn).2
     omega)
  unfold eR cR
  refine con_of_aw (sp:=spY) (Φ:=TrSt) [(14,frzM [1])] (fun w h=>spY_ok w h) (by kernel_rfl) Tryz.func24 rfl ?_ w hst
  intro hLen
  simp only[Tryz.ntmps24,List.length_cons,List.length_nil,Nat.reduceAdd,Nat.reduceSub,List.replicate_succ,List.replicate_zero,List.cons_append,List.nil_append]
  rw[ht]
  rcases ho with rfl|rfl
  · have e8:(⟨#[102,105,114,101]⟩:ByteArray)=bt (Rc.opW 9):=rfl
    have c8:(((9:Nat):Int)==8)=false:=rfl
    have c9:(((9:Nat):Int)==9)=true:=rfl
    have c12:(((9:Nat):Int)==12)=false:=rfl
    simp (maxSteps:=2000000) only[↓awA,awB,evA,envE,ofV,putE,listH,setRow,spl,oneP,guardB,frzA,mapO,allSc,closeA,shiftA,shiftR,flatA,flat0,scA,Row.len,fillW,rep,chunks,closed1,Value.oneCell',Nat.reduceAdd,reduceIte,reduceCtorEq,Nat.reduceLT,Nat.reduceLeDiff,Nat.reduceEqDiff,Nat.reduceSub,Nat.reduceMul,frz1,frzR,eq_self,and_self,tys,  spY_words,wordsA,spY_lit,spY_pins,c8,c9,c12,e8,spY_numbers,hfl,hll,hw2,hb2,hJ,spY_join,f1,f2,f3,h10,app,hR]
    repeat (refine And.intro (by first|exact Dr_of (by kernel_rfl)|decide) ?_)
    first|exact Dr_of (by kernel_rfl)|decide
  · have e8:(⟨#[114,101,115,116]⟩:ByteArray)=bt (Rc.opW 12):=rfl
    have c8:(((12:Nat):Int)==8)=false:=rfl
    have c9:(((12:Nat):Int)==9)=false:=rfl
    have c12:(((12:Nat):Int)==12)=true:=rfl
    simp (maxSteps:=2000000) only[↓awA,awB,evA,envE,ofV,putE,listH,setRow,spl,oneP,guardB,frzA,mapO,allSc,closeA,shiftA,shiftR,flatA,flat0,scA,Row.len,fillW,rep,chunks,closed1,Value.oneCell',Nat.reduceAdd,reduceIte,reduceCtorEq,Nat.reduceLT,Nat.reduceLeDiff,Nat.reduceEqDiff,Nat.reduceSub,Nat.reduceMul,frz1,frzR,eq_self,and_self,tys,  spY_words,wordsA,spY_lit,spY_pins,c8,c9,c12,e8,spY_numbers,hfl,hll,hw2,hb2,hJ,spY_join,f1,f2,f3,h10,app,hR]
    repeat (refine And.intro (by first|exact Dr_of (by kernel_rfl)|decide) ?_)
    first|exact Dr_of (by kernel_rfl)|decide
 |bare o ho=>
  obtain⟨W,hW⟩:∃W,W=[Rc.opW o]:=⟨_,rfl⟩
  have ht:textM ⟨o,0,[],0,[]⟩=join W [32]:=by
   rw[hW]
   unfold textM wordsM
   simp only
   rw[if_neg (by omega),if_neg (by omega),if_pos ho]
  have hJ:[[AV.sc (.string (bt (Rc.opW o)))]]=litS W:=by rw[hW];rfl
  obtain⟨f1,f2,f3⟩:=fin W (by rw[hW];simp) (by
   rw[hW]
   intro x hx
   rw[List.mem_singleton] at hx
   subst hx
   rcases ho with rfl|rfl<;>decide)
  unfold eR cR
  refine con_of_aw (sp:=spY) (Φ:=TrSt) [(14,frzM [1])] (fun w h=>spY_ok w h) (by kernel_rfl) Tryz.func24 rfl ?_ w hst
  intro hLen
  simp only[Tryz.ntmps24,List.length_cons,List.length_nil,Nat.reduceAdd,Nat.reduceSub,List.replicate_succ,List.replicate_zero,List.cons_append,List.nil_append]
  rw[ht]
  rcases ho with rfl|rfl
  · have e8:(⟨#[100,101,102,101,114]⟩:ByteArray)=bt (Rc.opW 10):=rfl
    have c8:(((10:Nat):Int)==8)=false:=rfl
    have c9:(((10:Nat):Int)==9)=false:=rfl
    have c12:(((10:Nat):Int)==12)=false:=rfl
    have c10:(((10:Nat):Int)==10)=true:=rfl
    have c11:(((10:Nat):Int)==11)=false:=rfl
    simp (maxSteps:=2000000) only[↓awA,awB,evA,envE,ofV,putE,listH,setRow,spl,oneP,guardB,frzA,mapO,allSc,closeA,shiftA,shiftR,flatA,flat0,scA,Row.len,fillW,rep,chunks,closed1,Value.oneCell',Nat.reduceAdd,reduceIte,reduceCtorEq,Nat.reduceLT,Nat.reduceLeDiff,Nat.reduceEqDiff,Nat.reduceSub,Nat.reduceMul,frz1,frzR,eq_self,and_self,tys,  spY_words,wordsA,spY_lit,spY_pins,c8,c9,c12,c10,c11,e8,hJ,spY_join,f1,f2,f3,h10,app,hR]
    repeat (refine And.intro (by first|exact Dr_of (by kernel_rfl)|decide) ?_)
    first|exact Dr_of (by kernel_rfl)|decide
  · have e8:(⟨#[100,114,111,112]⟩:ByteArray)=bt (Rc.opW 11):=rfl
    have c8:(((11:Nat):Int)==8)=false:=rfl
    have c9:(((11:Nat):Int)==9)=false:=rfl
    have c12:(((11:Nat):Int)==12)=false:=rfl
    have c10:(((11:Nat):Int)==10)=false:=rfl
    have c11:(((11:Nat):Int)==11)=true:=rfl
    simp (maxSteps:=2000000) only[↓awA,awB,evA,envE,ofV,putE,listH,setRow,spl,oneP,guardB,frzA,mapO,allSc,closeA,shiftA,shiftR,flatA,flat0,scA,Row.len,fillW,rep,chunks,closed1,Value.oneCell',Nat.reduceAdd,reduceIte,reduceCtorEq,Nat.reduceLT,Nat.reduceLeDiff,Nat.reduceEqDiff,Nat.reduceSub,Nat.reduceMul,frz1,frzR,eq_self,and_self,tys,  spY_words,wordsA,spY_lit,spY_pins,c8,c9,c12,c10,c11,e8,hJ,spY_join,f1,f2,f3,h10,app,hR]
    repeat (refine And.intro (by first|exact Dr_of (by kernel_rfl)|decide) ?_)
    first|exact Dr_of (by kernel_rfl)|decide
end Go.Proofs.YtpjodoipceddpaaGreatDoor.Aw
