/- Traces: the law TracePuts, of one record: walked abstractly. -/
import Derived.Test.YtpjodoipceddpaaGreatDoorRcR
import Derived.Test.YtpjodoipceddpaaGreatDoorRcL
namespace Go.Proofs.YtpjodoipceddpaaGreatDoor.Aw
open Go.RowKit Go.Lib Rc
set_option maxHeartbeats 8000000
set_option maxRecDepth 100000
def eRl (X:List RecM):List AV:=[.ro (cRl X)]
theorem eRl_inj (x y:List RecM) (h:eRl x=eRl y):x=y:=by
 unfold eRl cRl at h
 simp only[List.cons.injEq,AV.ro.injEq,and_true] at h
 exact(List.map_inj_right (fun a b hab=>cR_inj hab)).1 h
def eRl2 (X:List RecM):List AV:=[.ro (cRl X),.ro (cRl X)]
theorem eRl2_inj (x y:List RecM) (h:eRl2 x=eRl2 y):x=y:=by
 unfold eRl2 at h
 simp only[List.cons.injEq,and_true,and_self] at h
 exact eRl_inj x y (by unfold eRl;rw[h])
def Shs (X:List RecM):Prop:=X.length≤1000∧∀r∈X,Shr r
noncomputable def spTP :Spec:=((((((((((spN.tell 25 (byE eRl Few (fun _=>.sc (.bool true)))).tell
 5 (byE (fun _:Unit=>[]) (fun _=>True) (fun _=>.sc (.bool true)))).tell
 13 (byE eRl Shs (fun X=>.tup [.sc (.string (bt (putA [] X).1)),.sc (.int .i64 (putA [] X).2)]))).tell
 9 (byE eRl Sml (fun X=>.ro (cRl X)))).tell
 26 (byE eRl Shs (fun X=>.tup [.sc (.string (bt (putA [] X).1)),.sc (.int .i64 (putA [] X).2)]))).tell
 14 (byE eRl Sml (fun X=>.ro (cLs (restsM X))))).tell
 12 (byE eR (fun r=>r.name.length≤1000000000) (fun r=>.sc (.bool (mayB nmB r))))).tell
 18 (byE eR (fun r=>r.name.length≤9223372036854775807) (fun r=>.sc (.bool (mayB nmB r))))).tell
 8 (byE eRl2 Sml (fun _=>.sc (.bool true)))).tell
 15 (byE eRl (fun X=>X.length≤1000000) (fun X=>.sc (.int .i64 (stepsM X:Nat))))).lits
theorem spTP_ok (w:World) (hst:TrS w):SpecOk Tryz.prog spTP w (fun _=>False):=
 lits_ok (tell_ok (tell_ok (tell_ok (tell_ok (tell_ok (tell_ok (tell_ok (tell_ok (tell_ok (tell_ok (spN_ok w)
  (enters_of' Tryz.func25 (by kernel_rfl)) (byE_ok fun X h w' _=>few31_con X h w'))
  (enters_of' Tryz.func5 (by kernel_rfl)) (byE_ok fun _ _ w' hf=>works31_con w' (hst.fr hf)))
  (enters_of' Tryz.func13 (by kernel_rfl)) (byE_ok fun X h w' hf=>tput_con X h.1 h.2 w' (hst.fr hf).1))
  (enters_of' Tryz.func9 (by kernel_rfl)) (byE_ok fun X h w' _=>ref31_con X h w'))
  (enters_of' Tryz.func26 (by kernel_rfl)) (byE_ok fun X h w' _=>put31_con X h.1 h.2 w'))
  (enters_of' Tryz.func14 (by kernel_rfl)) (byE_ok fun X h w' _=>restsG_con X h w'))
  (enters_of' Tryz.func12 (by kernel_rfl)) (byE_ok fun r h w' hf=>may_con r h w' (hst.fr hf).1))
  (enters_of' Tryz.func18 (by kernel_rfl)) (byE_ok fun r h w' _=>may31_con r h w'))
  (enters_of' Tryz.func8 (by kernel_rfl)) (byE_ok fun X h w' _=>same31_con X h w'))
  (enters_of' Tryz.func15 (by kernel_rfl)) (byE_ok fun X h w' _=>steps_con X h w'))
theorem spTP_lit :(spTP.lit=true)=True:=eq_true rfl
theorem spTP_pins :(spTP.pins=0)=True:=eq_true rfl
theorem spTP_few {X:List RecM}:spTP.call 25 [.ro (cRl X)]=some (Few X,.sc (.bool true),[]):=by
 unfold spTP
 rw[lits_call,tell_ne (by rfl),tell_ne (by rfl),tell_ne (by rfl),tell_ne (by rfl),tell_ne (by rfl),tell_ne (by rfl),tell_ne (by rfl),tell_ne (by rfl),tell_ne (by rfl),tell_same]
 exact byE_eq eRl_inj X
theorem spTP_works :spTP.call 5 []=some (True,.sc (.bool true),[]):=by
 unfold spTP
 rw[lits_call,tell_ne (by rfl),tell_ne (by rfl),tell_ne (by rfl),tell_ne (by rfl),tell_ne (by rfl),tell_ne (by rfl),tell_ne (by rfl),tell_ne (by rfl),tell_same]
 exact byE_eq (enc:=fun _:Unit=>[]) (fun _ _ _=>rfl) ()
theorem spTP_put {X:List RecM}:spTP.call 13 [.ro (cRl X)]=some (Shs X,.tup [.sc (.string (bt (putA [] X).1)),.sc (.int .i64 (putA [] X).2)],[]):=by
 unfold spTP
 rw[lits_call,tell_ne (by rfl),tell_ne (by rfl),tell_ne (by rfl),tell_ne (by rfl),tell_ne (by rfl),tell_ne (by rfl),tell_ne (by rfl),tell_same]
 exact byE_eq eRl_inj X
theorem spTP_ref {X:List RecM}:spTP.call 9 [.ro (cRl X)]=some (Sml X,.ro (cRl X),[]):=by
 unfold spTP
 rw[lits_call,tell_ne (by rfl),tell_ne (by rfl),tell_ne (by rfl),tell_ne (by rfl),tell_ne (by rfl),tell_ne (by rfl),tell_same]
 exact byE_eq eRl_inj X
theorem spTP_rput {X:List RecM}:spTP.call 26 [.ro (cRl X)]=some (Shs X,.tup [.sc (.string (bt (putA [] X).1)),.sc (.int .i64 (putA [] X).2)],[]):=by
 unfold spTP
 rw[lits_call,tell_ne (by rfl),tell_ne (by rfl),tell_ne (by rfl),tell_ne (by rfl),tell_ne (by rfl),tell_same]
 exact byE_eq eRl_inj X
theorem spTP_rests {X:List RecM}:spTP.call 14 [.ro (cRl X)]=some (Sml X,.ro (cLs (restsM X)),[]):=by
 unfold spTP
 rw[lits_call,tell_ne (by rfl),tell_ne (by rfl),tell_ne (by rfl),tell_ne (by rfl),tell_same]
 exact byE_eq eRl_inj X
theorem spTP_may {r:RecM}:spTP.call 12 [.agg [.sc (.int .u8 (r.op:Int)),.sc (.int .i64 r.at_),.sc (.string (bt r.name)),.sc (.int .i64 r.arg),.ro (r.list.map eI)]]=some (r.name.length≤1000000000,.sc (.bool (mayB nmB r)),[]):=by
 unfold spTP
 rw[lits_call,tell_ne (by rfl),tell_ne (by rfl),tell_ne (by rfl),tell_same]
 exact byE_eq eR_inj r
theorem spTP_rmay {r:RecM}:spTP.call 18 [.agg [.sc (.int .u8 (r.op:Int)),.sc (.int .i64 r.at_),.sc (.string (bt r.name)),.sc (.int .i64 r.arg),.ro (r.list.map eI)]]=some (r.name.length≤9223372036854775807,.sc (.bool (mayB nmB r)),[]):=by
 unfold spTP
 rw[lits_call,tell_ne (by rfl),tell_ne (by rfl),tell_same]
 exact byE_eq eR_inj r
theorem spTP_same {X:List RecM}:spTP.call 8 [.ro (cRl X),.ro (cRl X)]=some (Sml X,.sc (.bool true),[]):=by
 unfold spTP
 rw[lits_call,tell_ne (by rfl),tell_same]
 exact byE_eq eRl2_inj X
theorem spTP_steps {X:List RecM}:spTP.call 15 [.ro (cRl X)]=some (X.length≤1000000,.sc (.int .i64 (stepsM X:Nat)),[]):=by
 unfold spTP
 rw[lits_call,tell_same]
 exact byE_eq eRl_inj X
theorem puts_con (r:RecM) (hF:Few [r]) (hs:Shr r) (w:World) (hst:TrS w):ConAt Tryz.prog w 10 [.ro (cRl [r])] (.sc (.bool true)) []:=by
 refine con_of_aw (sp:=spTP) (Φ:=TrS) [] (fun w h=>spTP_ok w h) (by kernel_rfl) Tryz.func10 rfl ?_ w hst
 intro hLen
 simp only[Tryz.ntmps10,List.length_cons,List.length_nil,Nat.reduceAdd,Nat.reduceSub,List.replicate_succ,List.replicate_zero,List.cons_append,List.nil_append]
 have hR:=Tryz.results10
 have hll:(cRl [r]).length=1:=cRl_len [r]
 obtain⟨X,hX⟩:∃X,X=[r]:=⟨_,rfl⟩
 have hsm:Sml [r]:=⟨by simp,fun x hx=>by rw[List.mem_singleton] at hx;rw[hx];have:=hs.1;omega⟩
 have hsm2:Sml [⟨0,0,[],0,r.list⟩]:=⟨by simp,fun x hx=>by rw[List.mem_singleton] at hx;rw[hx];have:=hs.1;show r.list.length≤_;omega⟩
 have hsh:Shs [r]:=⟨by simp,fun x hx=>by rw[List.mem_singleton] at hx;rw[hx];exact hs⟩
 rw[←hX] at hF hsm hsh hll⊢
 have hXl:X.length≤1000000:=by rw[hX];simp
 have e0:at_ (cRl X) 0=cR r:=by rw[hX];rfl
 obtain⟨W,hW⟩:∃W,W=putA [] X:=⟨_,rfl⟩
 have p1:=spTP_put (X:=X)
 have p2:=spTP_rput (X:=X)
 rw[←hW] at p1 p2
 simp (maxSteps:=2000000) only[↓awA,awB,evA,envE,ofV,putE,listH,setRow,spl,oneP,guardB,frzA,mapO,allSc,closeA,shiftA,shiftR,flatA,flat0,scA,Row.len,fillW,rep,chunks,closed1,Value.oneCell',Nat.reduceAdd,reduceIte,reduceCtorEq,Nat.reduceLT,Nat.reduceLeDiff,Nat.reduceEqDiff,Nat.reduceSub,Nat.reduceMul,frz1,frzR,eq_self,and_self,tys,  hR,hll,spTP_few,hF,p1,p2,hsh,spTP_ref,hsm,spTP_rests,spTP_lit,spTP_pins]
 clear p1 p2
 refine aw_loop (fun i:Nat=>[.ro (cRl X),.dead,.dead,.dead,.dead,.dead,.dead,.sc (.int .i64 (stepsM (X.take i):Nat)),.sc (.int .i64 ((restsM (X.take i)).length:Nat)),.ro (cLs (restsM X)),.sc (.int .i64 (i:Int))]++deads 106) (fun _=>[])
  (fun i=>i≤1) (fun i=>1 - i) 0 ?_ (Nat.zero_le _) ?_ (fun _ _=>by rw[show spTP.pins=0 from rfl];trivial)
 · simp[Weak,weakL,weakR,weakV,nilV,nilR,okA,listH,deads,pinR,isVarB,pin_pins,  stepsM,restsM]
 intro i hi
 simp only[deads,List.replicate_succ,List.replicate_zero,List.cons_append,List.nil_append]
 by_cases hlt:i<1
 · obtain rfl:i=0:=by omega
   have hl0:(((0:Nat):Int)<1)=True:=eq_true (by decide)
   have hl1:(((0:Nat):Int)≤((0+1:Nat):Int))=True:=eq_true (by decide)
   have hl2:(((0+1:Nat):Int)≤1)=True:=eq_true (by decide)
   have hl3:((0:Int)≤((0:Nat):Int))=True:=eq_true (by decide)
   have hl4:((0:Int)<1)=True:=eq_true (by decide)
   have hl5:((0:Int)≤0)=True:=eq_true (by decide)
   have hz:Int.toNat ((0:Nat):Int)=0:=rfl
   have hz1:Int.toNat ((0+1:Nat):Int)=1:=rfl
   have hz2:Int.toNat 0=0:=rfl
   have hw:IntKind.i64.wrap (((0:Nat):Int)+1)=((0+1:Nat):Int):=by rw[IntWalk.i64_in _ (by omega)];omega
   have hsl:List.drop 0 (List.take 1 (cRl X))=cRl X:=by rw[hX];rfl
   have hwd:(∀e∈cRl X,e.length=5)=True:=eq_true (fun e he=>by rw[hX] at he;simp only[cRl,List.map_cons,List.map_nil,List.mem_singleton] at he;rw[he];rfl)
   have hn1:(r.name.length≤1000000000)=True:=eq_true (by have:=hs.2.1;omega)
   have hn2:(r.name.length≤9223372036854775807)=True:=eq_true (by have:=hs.2.1;omega)
   have s0:((stepsM (List.take 0 X):Nat):Int)=0:=rfl
   have k0:(((restsM (List.take 0 X)).length:Nat):Int)=0:=rfl
   have d1:decide ((r.op:Int)≥3)=decide (3≤r.op):=decide_eq_decide.2 (by omega)
   have d2:decide ((r.op:Int)≤7)=decide (r.op≤7):=decide_eq_decide.2 (by omega)
   have d3:((r.op:Int)==12)=decide (r.op=12):=by rw[Bool.eq_iff_iff,beq_iff_eq,decide_eq_true_eq];omega
   have hst1:stepsM (List.take 1 X)=if isStep r then 1 else 0:=by
    rw[hX]
    show stepsM [r]=_
    unfold stepsM
    cases h:isStep r<;>simp[h]
   have hre1:restsM (List.take 1 X)=if r.op=12 then [r.list] else []:=by
    rw[hX]
    show restsM [r]=_
    unfold restsM
    by_cases h:r.op=12<;>simp[h]
   have hre:restsM X=if r.op=12 then [r.list] else []:=by rw[hX] at hre1⊢;exact hre1
   have n0:stepsM []=0:=rfl
   have r0:restsM []=[]:=rfl
   have w0:IntKind.i64.wrap (((0:Nat):Int)+1)=1:=rfl
   cases hm:mayB nmB r
   all_goals
    cases p3:decide (r.op=12)
    · have hp:=of_decide_eq_false p3
      rw[if_neg hp] at hre1
      cases p1:decide (3≤r.op)
      · have hs:isStep r=false:=by unfold isStep;rw[p1,Bool.false_and]
        rw[hs] at hst1
        simp (maxSteps:=2000000) only[↓awA,awB,evA,envE,ofV,putE,listH,setRow,spl,oneP,guardB,frzA,mapO,allSc,closeA,shiftA,shiftR,flatA,flat0,scA,Row.len,fillW,rep,chunks,closed1,Value.oneCell',Nat.reduceAdd,reduceIte,reduceCtorEq,Nat.reduceLT,Nat.reduceLeDiff,Nat.reduceEqDiff,Nat.reduceSub,Nat.reduceMul,frz1,frzR,eq_self,and_self,tys,  hl0,hl1,hl2,hl3,hl4,hl5,hz,hz1,hz2,hw,hsl,hwd,e0,cR,hll,spTP_may,spTP_rmay,hn1,hn2,hm,spTP_ref,hsm,s0,k0,n0,r0,w0,d1,d3,p3,spTP_lit,spTP_pins,p1]
        repeat (refine And.intro (by first|exact Dr_of (by kernel_rfl)|decide) ?_)
        refine loopQ_next 1 ?_ (Nat.le_refl _) (by decide)
        simp[Weak,weakL,weakR,weakV,nilV,nilR,okA,listH,deads,pinR,isVarB,pin_pins,  hst1,hre1,n0,r0]
      · cases p2:decide (r.op≤7)
        · have hs:isStep r=false:=by unfold isStep;rw[p1,p2];rfl
          rw[hs] at hst1
          simp (maxSteps:=2000000) only[↓awA,awB,evA,envE,ofV,putE,listH,setRow,spl,oneP,guardB,frzA,mapO,allSc,closeA,shiftA,shiftR,flatA,flat0,scA,Row.len,fillW,rep,chunks,closed1,Value.oneCell',Nat.reduceAdd,reduceIte,reduceCtorEq,Nat.reduceLT,Nat.reduceLeDiff,Nat.reduceEqDiff,Nat.reduceSub,Nat.reduceMul,frz1,frzR,eq_self,and_self,tys,  hl0,hl1,hl2,hl3,hl4,hl5,hz,hz1,hz2,hw,hsl,hwd,e0,cR,hll,spTP_may,spTP_rmay,hn1,hn2,hm,spTP_ref,hsm,s0,k0,n0,r0,w0,d1,d3,p3,spTP_lit,spTP_pins,p1,d2,p2]
          repeat (refine And.intro (by first|exact Dr_of (by kernel_rfl)|decide) ?_)
          refine loopQ_next 1 ?_ (Nat.le_refl _) (by decide)
          simp[Weak,weakL,weakR,weakV,nilV,nilR,okA,listH,deads,pinR,isVarB,pin_pins,  hst1,hre1,n0,r0]
        · have hs:isStep r=true:=by unfold isStep;rw[p1,p2];rfl
          rw[hs] at hst1
          simp (maxSteps:=2000000) only[↓awA,awB,evA,envE,ofV,putE,listH,setRow,spl,oneP,guardB,frzA,mapO,allSc,closeA,shiftA,shiftR,flatA,flat0,scA,Row.len,fillW,rep,chunks,closed1,Value.oneCell',Nat.reduceAdd,reduceIte,reduceCtorEq,Nat.reduceLT,Nat.reduceLeDiff,Nat.reduceEqDiff,Nat.reduceSub,Nat.reduceMul,frz1,frzR,eq_self,and_self,tys,  hl0,hl1,hl2,hl3,hl4,hl5,hz,hz1,hz2,hw,hsl,hwd,e0,cR,hll,spTP_may,spTP_rmay,hn1,hn2,hm,spTP_ref,hsm,s0,k0,n0,r0,w0,d1,d3,p3,spTP_lit,spTP_pins,p1,d2,p2]
          repeat (refine And.intro (by first|exact Dr_of (by kernel_rfl)|decide) ?_)
          refine loopQ_next 1 ?_ (Nat.le_refl _) (by decide)
          simp[Weak,weakL,weakR,weakV,nilV,nilR,okA,listH,deads,pinR,isVarB,pin_pins,  hst1,hre1,n0,r0]
    · have hp:=of_decide_eq_true p3
      rw[if_pos hp] at hre1 hre
      have p1:decide (3≤r.op)=true:=decide_eq_true (by omega)
      have p2:decide (r.op≤7)=false:=decide_eq_false (by omega)
      have hs:isStep r=false:=by unfold isStep;rw[p1,p2];rfl
      rw[hs] at hst1
      have hrl:(cLs (restsM X)).length=1:=by rw[hre];rfl
      have e3:at_ (cLs (restsM X)) 0=[.ro (r.list.map eI)]:=by rw[hre];rfl
      have hlit:[[AV.sc (.int .u8 0),AV.sc (.int .i64 0),AV.sc (.string ⟨#[]⟩),AV.sc (.int .i64 0),AV.ro (r.list.map eI)]]=cRl [⟨0,0,[],0,r.list⟩]:=rfl
      simp (maxSteps:=2000000) only[↓awA,awB,evA,envE,ofV,putE,listH,setRow,spl,oneP,guardB,frzA,mapO,allSc,closeA,shiftA,shiftR,flatA,flat0,scA,Row.len,fillW,rep,chunks,closed1,Value.oneCell',Nat.reduceAdd,reduceIte,reduceCtorEq,Nat.reduceLT,Nat.reduceLeDiff,Nat.reduceEqDiff,Nat.reduceSub,Nat.reduceMul,frz1,frzR,eq_self,and_self,tys,  hl0,hl1,hl2,hl3,hl4,hl5,hz,hz1,hz2,hw,hsl,hwd,e0,cR,hll,spTP_may,spTP_rmay,hn1,hn2,hm,spTP_ref,hsm,s0,k0,n0,r0,w0,d1,d3,p3,spTP_lit,spTP_pins,p1,d2,p2,hrl,e3,hlit,hsm2,spTP_same]
      repeat (refine And.intro (by first|exact Dr_of (by kernel_rfl)|decide) ?_)
      refine loopQ_next 1 ?_ (Nat.le_refl _) (by decide)
      simp[Weak,weakL,weakR,weakV,nilV,nilR,okA,listH,deads,pinR,isVarB,pin_pins,  hst1,hre1,n0,r0]
 · obtain rfl:i=1:=by omega
   have hie:X.take 1=X:=by rw[hX];rfl
   rw[hie]
   have hl0:(((1:Nat):Int)<1)=False:=eq_false (by decide)
   have hrl:(cLs (restsM X)).length=(restsM X).length:=by unfold cLs;rw[List.length_map]
   simp (maxSteps:=2000000) only[↓awA,awB,evA,envE,ofV,putE,listH,setRow,spl,oneP,guardB,frzA,mapO,allSc,closeA,shiftA,shiftR,flatA,flat0,scA,Row.len,fillW,rep,chunks,closed1,Value.oneCell',Nat.reduceAdd,reduceIte,reduceCtorEq,Nat.reduceLT,Nat.reduceLeDiff,Nat.reduceEqDiff,Nat.reduceSub,Nat.reduceMul,frz1,frzR,eq_self,and_self,tys,  hl0,hll,spTP_steps,hXl,hrl,spTP_works,hR]
end Go.Proofs.YtpjodoipceddpaaGreatDoor.Aw
