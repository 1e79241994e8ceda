/- Traces: the document's numbers, read and written, walked abstractly. -/
import Derived.Test.YtpjodoipceddpaaGreatDoorRecWf
namespace Go.Proofs.YtpjodoipceddpaaGreatDoor.Aw
open Go.RowKit Go.Lib Rc
set_option maxHeartbeats 8000000
set_option maxRecDepth 100000
noncomputable def spQ :Spec:=(spN.tell 56 (byE eL (fun _=>True) (fun l=>.ro ((trimM l).map eI)))).tell
 55 (byE eLn (fun x=>∀d∈x.1,0≤d∧d<10) (fun x=>.tup [.sc (.int .i64 (toldM x.1.reverse x.2).1),.sc (.int .i64 (toldM x.1.reverse x.2).2)]))
theorem spQ_trim {l:List Int}:spQ.call 56 [.ro (l.map eI)]=some (True,.ro ((trimM l).map eI),[]):=by
 unfold spQ
 rw[tell_ne (by rfl),tell_same]
 exact byE_eq eL_inj l
theorem spQ_told {l:List Int} {b:Bool}:spQ.call 55 [.agg [.ro (l.map eI),.sc (.bool b)]]=some ((∀d∈l,0≤d∧d<10),.tup [.sc (.int .i64 (toldM l.reverse b).1),.sc (.int .i64 (toldM l.reverse b).2)],[]):=by
 unfold spQ
 rw[tell_same]
 exact byE_eq eLn_inj (l,b)
theorem spQ_ok (w:World) {fp:Nat→Prop}:SpecOk Tryz.prog spQ w fp:=
 tell_ok (tell_ok (spN_ok w) (enters_of' Tryz.func56 (by kernel_rfl)) (byE_ok fun a _ w _=>trim_con a w)) (enters_of' Tryz.func55 (by kernel_rfl)) (byE_ok fun a h w _=>told_con a h w)
theorem spQ_pins :(spQ.pins=0)=True:=eq_true rfl
theorem spQ_lit :(spQ.lit=true)=False:=eq_false (fun h=>by cases h)
theorem fits_drop :∀l:List Int,fitsM (l.dropWhile (· ==0)) 0=fitsM l 0
 |[]=>rfl
 |x::l=>by
  rw[List.dropWhile_cons]
  split
  · rename_i h
    have h:=beq_iff_eq.1 h
    subst h
    rw[fits_drop l,fitsM,if_neg (by decide)]
    rfl
  · rfl
theorem told_trim (l:List Int) (b:Bool):toldM (trimM l.reverse).reverse b=toldM l b:=by
 unfold trimM
 rw[List.reverse_reverse,List.reverse_reverse]
 unfold toldM
 rw[fits_drop]
theorem trim_mem {l:List Int} {x:Int} (h:x∈trimM l):x∈l:=by
 unfold trimM at h
 rw[List.mem_reverse] at h
 have:=(List.dropWhile_sublist (· ==0)).mem h
 rwa [List.mem_reverse] at this
theorem isD_int (c:UInt8):isD c=(!(decide ((c.toNat:Int)<48)||decide ((c.toNat:Int)>57))):=by
 unfold isD
 rw[Bool.eq_iff_iff]
 simp
 omega
theorem parse6_con (s:ByteArray) (hs:s.size≤1000000000) (w:World):ConAt Tryz.prog w 34 (eS s) (.tup [.sc (.int .i64 (rpM s.data.toList).1),.sc (.int .i64 (rpM s.data.toList).2)]) []:=by
 unfold eS
 refine con_of_aw (sp:=spQ) (Φ:=fun _=>True) [(13,frzM [0])] (fun w _=>spQ_ok w) (by kernel_rfl) Tryz.func34 rfl ?_ w trivial
 intro hLen
 simp only[Tryz.ntmps34,List.length_cons,List.length_nil,Nat.reduceAdd,Nat.reduceSub,List.replicate_succ,List.replicate_zero,List.cons_append,List.nil_append]
 have hl:s.data.toList.length=s.size:=rfl
 have hE:=isEmpty_dec s
 have hz:Int.toNat 0=0:=rfl
 have hz2:(0:Int)≤0:=Int.le_refl 0
 cases ht:s.data.toList with
 |nil=>
  have c1:decide (s.data.toList=[])=true:=decide_eq_true ht
  have hr:rpM []=(0,2):=rfl
  rw[hr]
  simp (maxSteps:=2000000) only[↓awA,awB,evA,envE,ofV,putE,listH,setRow,spl,oneP,guardB,frzA,mapO,allSc,closeA,shiftA,shiftR,flatA,flat0,scA,Row.len,fillW,rep,chunks,closed1,Value.oneCell',Nat.reduceAdd,reduceIte,reduceCtorEq,Nat.reduceLT,Nat.reduceLeDiff,Nat.reduceEqDiff,Nat.reduceSub,Nat.reduceMul,frz1,frzR,eq_self,and_self,tys,  hE,c1,Tryz.results34]
 |cons c r=>
  have c1:decide (s.data.toList=[])=false:=decide_eq_false (by rw[ht];simp)
  have hb:byteAt s 0=(c.toNat:Int):=byteAt_some (by rw[ht];rfl)
  have hpos:(0:Int)<s.size:=by rw[←hl,ht,List.length_cons];omega
  have hgo:∃(u:ByteArray) (b:Bool),b=decide (c=45)∧u=(if c=45 then s.extract 1 s.size else s)∧rpM (c::r)=rbody u.data.toList b∧u.size≤s.size:=by
   by_cases h45:c=45
   · subst h45
     refine⟨s.extract 1 s.size,true,rfl,(if_pos rfl).symm, ?_,by rw[ByteArray.size_extract];omega⟩
     have:(s.extract 1 s.size).data.toList=r:=by
      have:=extract_to_end s 1
      rw[this,ht]
      rfl
     rw[this]
     rfl
   · refine⟨s,false,(decide_eq_false h45).symm,(if_neg h45).symm, ?_,Nat.le_refl _⟩
     rw[ht]
     unfold rpM
     split
     · rename_i h
       cases h
       exact absurd rfl h45
     · rfl
  obtain⟨u,b,hbb,hu,hrp,hus⟩:=hgo
  have hul:u.data.toList.length=u.size:=rfl
  have huE:=isEmpty_dec u
  rw[hrp]
  have c45:((c.toNat:Int)==45)=b:=by
   rw[hbb,Bool.eq_iff_iff,beq_iff_eq,decide_eq_true_eq]
   constructor
   · intro h;exact UInt8.toNat_inj.1 (by show c.toNat=45;omega)
   · rintro rfl;rfl
  have hfit:∀d∈trimM ((u.data.toList.drop 0).map digI).reverse,u.data.toList.all isD=true→0≤d∧d<10:=fun d hd ha=>by
   have:=trim_mem hd
   rw[List.mem_reverse,List.drop_zero] at this
   obtain⟨c,hc,rfl⟩:=List.mem_map.1 this
   have:=List.all_eq_true.1 ha c hc
   unfold isD at this
   simp only[Bool.and_eq_true,decide_eq_true_eq] at this
   unfold digI
   omega
  have hst:=pd_start (n:=u.size) (by omega)
  have hempty:u.data.toList=[]→rbody u.data.toList b=(0,2):=fun h=>by
   unfold rbody
   rw[if_pos (.inl h)]
  have hnought:∀c2 r2,u.data.toList=c2::r2→((c2.toNat:Int)==48)=true→(decide ((u.size:Int)>1)||b)=true→rbody u.data.toList b=(0,2):=fun c2 r2 h h48 hc=>by
   have:c2=48:=by
    rw[beq_iff_eq] at h48
    exact UInt8.toNat_inj.1 (by show c2.toNat=48;omega)
   subst this
   unfold rbody
   rw[if_pos (.inr ⟨by rw[h];rfl,by
    rw[Bool.or_eq_true,decide_eq_true_eq] at hc
    rcases hc with hc|hc
    · exact .inl (by rw[hul];omega)
    · exact .inr hc⟩)]
  have hbody:∀c2 r2,u.data.toList=c2::r2→((c2.toNat:Int)==48 && (decide ((u.size:Int)>1)||b))=false→rbody u.data.toList b=if u.data.toList.all isD then toldM (u.data.toList.map digI) b else(0,2):=fun c2 r2 h hc=>by
   unfold rbody
   rw[if_neg]
   rintro(h1|⟨h1,h2⟩)
   · rw[h1] at h;cases h
   · rw[h] at h1
     cases h1
     rw[Bool.and_eq_false_iff,Bool.or_eq_false_iff,decide_eq_false_iff_not] at hc
     rcases hc with hc|⟨hc1,hc2⟩
     · exact absurd hc (by decide)
     · rcases h2 with h2|h2
       · rw[hul] at h2;omega
       · rw[hc2] at h2;cases h2
  have hb45:c=45↔b=true:=by rw[hbb,decide_eq_true_eq]
  have hR:=Tryz.results34
  cases b
  · have hus2:u=s:=by
     rw[hu,if_neg]
     intro h
     have:=hb45.1 h
     cases this
    subst hus2
    have hx:=True.intro
    have hz1:=True.intro
    have h1s:=True.intro
    have h01:=True.intro
    cases hu0:u.data.toList with
    |nil=>
     have c2:decide (u.data.toList=[])=true:=decide_eq_true hu0
     have hr0:=hempty hu0
     rw[hu0] at hr0
     rw[hr0]
     first
      |exact absurd (ht.symm.trans hu0) (by simp)
      |simp (maxSteps:=2000000) only[↓awA,awB,evA,envE,ofV,putE,listH,setRow,spl,oneP,guardB,frzA,mapO,allSc,closeA,shiftA,shiftR,flatA,flat0,scA,Row.len,fillW,rep,chunks,closed1,Value.oneCell',Nat.reduceAdd,reduceIte,reduceCtorEq,Nat.reduceLT,Nat.reduceLeDiff,Nat.reduceEqDiff,Nat.reduceSub,Nat.reduceMul,frz1,frzR,eq_self,and_self,tys,  hE,c1,hz,hz2,hpos,hb,c45,hz1,h01,h1s,hx,Option.map_none,huE,c2,hR]
    |cons c2 r2=>
     try (have hcc:=(List.cons.inj (hu0.symm.trans ht)).1;subst hcc)
     have k2:decide (u.data.toList=[])=false:=decide_eq_false (by rw[hu0];simp)
     have hb2:byteAt u 0=(c2.toNat:Int):=byteAt_some (by rw[hu0];rfl)
     have hpos2:(0:Int)<u.size:=by rw[←hul,hu0,List.length_cons];omega
     rw[←hu0]
     by_cases hn:((c2.toNat:Int)==48 && (decide ((u.size:Int)>1)||false))=true
     · rw[Bool.and_eq_true] at hn
       rw[hnought c2 r2 hu0 hn.1 hn.2]
       have k48:=hn.1
       cases kg:decide ((u.size:Int)>1)
       · have hn2:=hn.2
         rw[kg] at hn2
         first
          |(cases hn2;done)
          |simp (maxSteps:=2000000) only[↓awA,awB,evA,envE,ofV,putE,listH,setRow,spl,oneP,guardB,frzA,mapO,allSc,closeA,shiftA,shiftR,flatA,flat0,scA,Row.len,fillW,rep,chunks,closed1,Value.oneCell',Nat.reduceAdd,reduceIte,reduceCtorEq,Nat.reduceLT,Nat.reduceLeDiff,Nat.reduceEqDiff,Nat.reduceSub,Nat.reduceMul,frz1,frzR,eq_self,and_self,tys,  hE,c1,hz,hz2,hpos,hb,c45,hz1,h01,h1s,hx,Option.map_none,huE,k2,hb2,hpos2,k48,kg,hR]
       · simp (maxSteps:=2000000) only[↓awA,awB,evA,envE,ofV,putE,listH,setRow,spl,oneP,guardB,frzA,mapO,allSc,closeA,shiftA,shiftR,flatA,flat0,scA,Row.len,fillW,rep,chunks,closed1,Value.oneCell',Nat.reduceAdd,reduceIte,reduceCtorEq,Nat.reduceLT,Nat.reduceLeDiff,Nat.reduceEqDiff,Nat.reduceSub,Nat.reduceMul,frz1,frzR,eq_self,and_self,tys,  hE,c1,hz,hz2,hpos,hb,c45,hz1,h01,h1s,hx,Option.map_none,huE,k2,hb2,hpos2,k48,kg,hR]
     · have hn:((c2.toNat:Int)==48 && (decide ((u.size:Int)>1)||false))=false:=by simpa using hn
       rw[hbody c2 r2 hu0 hn]
       have hn':(((c2.toNat:Int)==48)=false∧True)∨(((c2.toNat:Int)==48)=true∧decide ((u.size:Int)>1)=false∧false=false):=by
        rw[Bool.and_eq_false_iff,Bool.or_eq_false_iff] at hn
        cases h48:((c2.toNat:Int)==48)
        · exact .inl ⟨rfl,trivial⟩
        · exact .inr ⟨rfl,hn.resolve_left (by rw[h48];simp)⟩
       rcases hn' with ⟨k48,kg⟩|⟨k48,kg,kb⟩
       all_goals first|(cases kb;done)|skip
       all_goals
        simp (maxSteps:=2000000) only[↓awA,awB,evA,envE,ofV,putE,listH,setRow,spl,oneP,guardB,frzA,mapO,allSc,closeA,shiftA,shiftR,flatA,flat0,scA,Row.len,fillW,rep,chunks,closed1,Value.oneCell',Nat.reduceAdd,reduceIte,reduceCtorEq,Nat.reduceLT,Nat.reduceLeDiff,Nat.reduceEqDiff,Nat.reduceSub,Nat.reduceMul,frz1,frzR,eq_self,and_self,tys,  hE,c1,hz,hz2,hpos,hb,c45,hz1,h01,h1s,hx,Option.map_none,huE,k2,hb2,hpos2,k48,kg,hst]
        refine aw_loop (fun k:Nat=>[.sc (.string u),.dead,.dead,.dead,.sc (.bool false),.sl 0 (((u.data.toList.drop k).map digI).reverse).length,.sc (.int .i64 (pd k))]++deads 57) (fun k=>[.lst 1 (((u.data.toList.drop k).map digI).reverse.map eI) 3])
         (fun k=>k≤u.size∧(u.data.toList.drop k).all isD=true) (fun k=>k) u.size ?_ ⟨Nat.le_refl _,by rw[List.drop_of_length_le (by omega)];rfl⟩ ?_ (fun _ _=>by rw[show spQ.pins=0 from rfl];trivial)
        · simp[Weak,weakL,weakR,weakV,nilV,nilR,okA,listH,deads,pinR,isVarB,pin_pins,  List.drop_of_length_le (Nat.le_of_eq hul)]
        rintro k ⟨hk,hA⟩
        simp only[deads,List.replicate_succ,List.replicate_zero,List.cons_append,List.nil_append]
        cases k with
        |zero=>
         have hfit':(∀d∈trimM ((u.data.toList.drop 0).map digI).reverse,0≤d∧d<10)=True:=eq_true fun d hd=>hfit d hd (by rwa [List.drop_zero] at hA)
         have htt:=told_trim (u.data.toList.map digI) false
         rw[List.drop_zero] at hA hfit'
         rw[hA,if_pos rfl,List.drop_zero,←htt]
         simp (maxSteps:=2000000) only[↓awA,awB,evA,envE,ofV,putE,listH,setRow,spl,oneP,guardB,frzA,mapO,allSc,closeA,shiftA,shiftR,flatA,flat0,scA,Row.len,fillW,rep,chunks,closed1,Value.oneCell',Nat.reduceAdd,reduceIte,reduceCtorEq,Nat.reduceLT,Nat.reduceLeDiff,Nat.reduceEqDiff,Nat.reduceSub,Nat.reduceMul,frz1,frzR,eq_self,and_self,tys,  pd_ge0,spQ_pins,spQ_trim,spQ_told,hfit',hR]
        |succ k=>
         obtain⟨x,hx⟩:∃x,u.data.toList[k]? =some x:=⟨_,List.getElem?_eq_getElem (by omega)⟩
         have e2:=byteAt_some hx
         have h3:=pd_lt (show k<u.size by omega)
         have hw:=pd_wr (k:=k) (by omega)
         have hxb:=x.toNat_lt
         have hc1:IntKind.i64.wrap (x.toNat:Int)=x.toNat:=IntWalk.i64_in _ (by omega)
         have hc2:IntKind.i64.wrap ((x.toNat:Int) - 48)=digI x:=IntWalk.i64_in _ (by omega)
         have hd:=drop_at hx
         cases hlo:decide ((x.toNat:Int)<48)
         · cases hhi:decide ((x.toNat:Int)>57)
           · have hdx:isD x=true:=by rw[isD_int,hlo,hhi];rfl
             have hsn:((u.data.toList.drop (k+1)).map digI).reverse.map eI++[[.sc (.int .i64 (digI x))]]=((u.data.toList.drop k).map digI).reverse.map eI:=by
              rw[hd,List.map_cons,List.reverse_cons,List.map_append]
              rfl
             have hln:(((u.data.toList.drop (k+1)).map digI).reverse).length+1=(((u.data.toList.drop k).map digI).reverse).length:=by
              rw[hd,List.map_cons,List.reverse_cons,List.length_append]
              rfl
             have hbn:(((u.data.toList.drop k).map digI).reverse).length*8≤140737488355328:=by rw[List.length_reverse,List.length_map,List.length_drop];omega
             simp (maxSteps:=2000000) only[↓awA,awB,evA,envE,ofV,putE,listH,setRow,spl,oneP,guardB,frzA,mapO,allSc,closeA,shiftA,shiftR,flatA,flat0,scA,Row.len,fillW,rep,chunks,closed1,Value.oneCell',Nat.reduceAdd,reduceIte,reduceCtorEq,Nat.reduceLT,Nat.reduceLeDiff,Nat.reduceEqDiff,Nat.reduceSub,Nat.reduceMul,frz1,frzR,eq_self,and_self,tys,  pd_ge,pd_le,h3,pd_nat,e2,hlo,hhi,hw,hc1,hc2,hsn,hln,hbn,spQ_lit]
             refine loopQ_next k ?_ ⟨by omega,by rw[hd,List.all_cons,hdx,hA];rfl⟩ (by omega)
             simp[Weak,weakL,weakR,weakV,nilV,nilR,okA,listH,deads,pinR,isVarB,pin_pins]
           · have hdx:isD x=false:=by rw[isD_int,hlo,hhi];rfl
             have hall:u.data.toList.all isD=false:=List.all_eq_false.2 ⟨x,List.mem_of_getElem? hx,by rw[hdx];simp⟩
             rw[hall]
             simp (maxSteps:=2000000) only[↓awA,awB,evA,envE,ofV,putE,listH,setRow,spl,oneP,guardB,frzA,mapO,allSc,closeA,shiftA,shiftR,flatA,flat0,scA,Row.len,fillW,rep,chunks,closed1,Value.oneCell',Nat.reduceAdd,reduceIte,reduceCtorEq,Nat.reduceLT,Nat.reduceLeDiff,Nat.reduceEqDiff,Nat.reduceSub,Nat.reduceMul,frz1,frzR,eq_self,and_self,tys,  pd_ge,pd_le,h3,pd_nat,e2,hlo,hhi,hR]
         · have hdx:isD x=false:=by rw[isD_int,hlo];rfl
           have hall:u.data.toList.all isD=false:=List.all_eq_false.2 ⟨x,List.mem_of_getElem? hx,by rw[hdx];simp⟩
           rw[hall]
           simp (maxSteps:=2000000) only[↓awA,awB,evA,envE,ofV,putE,listH,setRow,spl,oneP,guardB,frzA,mapO,allSc,closeA,shiftA,shiftR,flatA,flat0,scA,Row.len,fillW,rep,chunks,closed1,Value.oneCell',Nat.reduceAdd,reduceIte,reduceCtorEq,Nat.reduceLT,Nat.reduceLeDiff,Nat.reduceEqDiff,Nat.reduceSub,Nat.reduceMul,frz1,frzR,eq_self,and_self,tys,  pd_ge,pd_le,h3,pd_nat,e2,hlo,hR]
  · have hx:s.extract 1 s.size=u:=by rw[hu,if_pos (hb45.2 rfl)]
    have hz1:Int.toNat 1=1:=rfl
    have h01:(0:Int)≤1:=by decide
    have h1s:(1:Int)≤s.size:=by omega
    cases hu0:u.data.toList with
    |nil=>
     have c2:decide (u.data.toList=[])=true:=decide_eq_true hu0
     have hr0:=hempty hu0
     rw[hu0] at hr0
     rw[hr0]
     first
      |exact absurd (ht.symm.trans hu0) (by simp)
      |simp (maxSteps:=2000000) only[↓awA,awB,evA,envE,ofV,putE,listH,setRow,spl,oneP,guardB,frzA,mapO,allSc,closeA,shiftA,shiftR,flatA,flat0,scA,Row.len,fillW,rep,chunks,closed1,Value.oneCell',Nat.reduceAdd,reduceIte,reduceCtorEq,Nat.reduceLT,Nat.reduceLeDiff,Nat.reduceEqDiff,Nat.reduceSub,Nat.reduceMul,frz1,frzR,eq_self,and_self,tys,  hE,c1,hz,hz2,hpos,hb,c45,hz1,h01,h1s,hx,Option.map_none,huE,c2,hR]
    |cons c2 r2=>
     try (have hcc:=(List.cons.inj (hu0.symm.trans ht)).1;subst hcc)
     have k2:decide (u.data.toList=[])=false:=decide_eq_false (by rw[hu0];simp)
     have hb2:byteAt u 0=(c2.toNat:Int):=byteAt_some (by rw[hu0];rfl)
     have hpos2:(0:Int)<u.size:=by rw[←hul,hu0,List.length_cons];omega
     rw[←hu0]
     by_cases hn:((c2.toNat:Int)==48 && (decide ((u.size:Int)>1)||true))=true
     · rw[Bool.and_eq_true] at hn
       rw[hnought c2 r2 hu0 hn.1 hn.2]
       have k48:=hn.1
       cases kg:decide ((u.size:Int)>1)
       · have hn2:=hn.2
         rw[kg] at hn2
         first
          |(cases hn2;done)
          |simp (maxSteps:=2000000) only[↓awA,awB,evA,envE,ofV,putE,listH,setRow,spl,oneP,guardB,frzA,mapO,allSc,closeA,shiftA,shiftR,flatA,flat0,scA,Row.len,fillW,rep,chunks,closed1,Value.oneCell',Nat.reduceAdd,reduceIte,reduceCtorEq,Nat.reduceLT,Nat.reduceLeDiff,Nat.reduceEqDiff,Nat.reduceSub,Nat.reduceMul,frz1,frzR,eq_self,and_self,tys,  hE,c1,hz,hz2,hpos,hb,c45,hz1,h01,h1s,hx,Option.map_none,huE,k2,hb2,hpos2,k48,kg,hR]
       · simp (maxSteps:=2000000) only[↓awA,awB,evA,envE,ofV,putE,listH,setRow,spl,oneP,guardB,frzA,mapO,allSc,closeA,shiftA,shiftR,flatA,flat0,scA,Row.len,fillW,rep,chunks,closed1,Value.oneCell',Nat.reduceAdd,reduceIte,reduceCtorEq,Nat.reduceLT,Nat.reduceLeDiff,Nat.reduceEqDiff,Nat.reduceSub,Nat.reduceMul,frz1,frzR,eq_self,and_self,tys,  hE,c1,hz,hz2,hpos,hb,c45,hz1,h01,h1s,hx,Option.map_none,huE,k2,hb2,hpos2,k48,kg,hR]
     · have hn:((c2.toNat:Int)==48 && (decide ((u.size:Int)>1)||true))=false:=by simpa using hn
       rw[hbody c2 r2 hu0 hn]
       have hn':(((c2.toNat:Int)==48)=false∧True)∨(((c2.toNat:Int)==48)=true∧decide ((u.size:Int)>1)=false∧true=false):=by
        rw[Bool.and_eq_false_iff,Bool.or_eq_false_iff] at hn
        cases h48:((c2.toNat:Int)==48)
        · exact .inl ⟨rfl,trivial⟩
        · exact .inr ⟨rfl,hn.resolve_left (by rw[h48];simp)⟩
       rcases hn' with ⟨k48,kg⟩|⟨k48,kg,kb⟩
       all_goals first|(cases kb;done)|skip
       all_goals
        simp (maxSteps:=2000000) only[↓awA,awB,evA,envE,ofV,putE,listH,setRow,spl,oneP,guardB,frzA,mapO,allSc,closeA,shiftA,shiftR,flatA,flat0,scA,Row.len,fillW,rep,chunks,closed1,Value.oneCell',Nat.reduceAdd,reduceIte,reduceCtorEq,Nat.reduceLT,Nat.reduceLeDiff,Nat.reduceEqDiff,Nat.reduceSub,Nat.reduceMul,frz1,frzR,eq_self,and_self,tys,  hE,c1,hz,hz2,hpos,hb,c45,hz1,h01,h1s,hx,Option.map_none,huE,k2,hb2,hpos2,k48,kg,hst]
        refine aw_loop (fun k:Nat=>[.sc (.string u),.dead,.dead,.dead,.sc (.bool true),.sl 0 (((u.data.toList.drop k).map digI).reverse).length,.sc (.int .i64 (pd k))]++deads 57) (fun k=>[.lst 1 (((u.data.toList.drop k).map digI).reverse.map eI) 3])
         (fun k=>k≤u.size∧(u.data.toList.drop k).all isD=true) (fun k=>k) u.size ?_ ⟨Nat.le_refl _,by rw[List.drop_of_length_le (by omega)];rfl⟩ ?_ (fun _ _=>by rw[show spQ.pins=0 from rfl];trivial)
        · simp[Weak,weakL,weakR,weakV,nilV,nilR,okA,listH,deads,pinR,isVarB,pin_pins,  List.drop_of_length_le (Nat.le_of_eq hul)]
        rintro k ⟨hk,hA⟩
        simp only[deads,List.replicate_succ,List.replicate_zero,List.cons_append,List.nil_append]
        cases k with
        |zero=>
         have hfit':(∀d∈trimM ((u.data.toList.drop 0).map digI).reverse,0≤d∧d<10)=True:=eq_true fun d hd=>hfit d hd (by rwa [List.drop_zero] at hA)
         have htt:=told_trim (u.data.toList.map digI) true
         rw[List.drop_zero] at hA hfit'
         rw[hA,if_pos rfl,List.drop_zero,←htt]
         simp (maxSteps:=2000000) only[↓awA,awB,evA,envE,ofV,putE,listH,setRow,spl,oneP,guardB,frzA,mapO,allSc,closeA,shiftA,shiftR,flatA,flat0,scA,Row.len,fillW,rep,chunks,closed1,Value.oneCell',Nat.reduceAdd,reduceIte,reduceCtorEq,Nat.reduceLT,Nat.reduceLeDiff,Nat.reduceEqDiff,Nat.reduceSub,Nat.reduceMul,frz1,frzR,eq_self,and_self,tys,  pd_ge0,spQ_pins,spQ_trim,spQ_told,hfit',hR]
        |succ k=>
         obtain⟨x,hx⟩:∃x,u.data.toList[k]? =some x:=⟨_,List.getElem?_eq_getElem (by omega)⟩
         have e2:=byteAt_some hx
         have h3:=pd_lt (show k<u.size by omega)
         have hw:=pd_wr (k:=k) (by omega)
         have hxb:=x.toNat_lt
         have hc1:IntKind.i64.wrap (x.toNat:Int)=x.toNat:=IntWalk.i64_in _ (by omega)
         have hc2:IntKind.i64.wrap ((x.toNat:Int) - 48)=digI x:=IntWalk.i64_in _ (by omega)
         have hd:=drop_at hx
         cases hlo:decide ((x.toNat:Int)<48)
         · cases hhi:decide ((x.toNat:Int)>57)
           · have hdx:isD x=true:=by rw[isD_int,hlo,hhi];rfl
             have hsn:((u.data.toList.drop (k+1)).map digI).reverse.map eI++[[.sc (.int .i64 (digI x))]]=((u.data.toList.drop k).map digI).reverse.map eI:=by
              rw[hd,List.map_cons,List.reverse_cons,List.map_append]
              rfl
             have hln:(((u.data.toList.drop (k+1)).map digI).reverse).length+1=(((u.data.toList.drop k).map digI).reverse).length:=by
              rw[hd,List.map_cons,List.reverse_cons,List.length_append]
              rfl
             have hbn:(((u.data.toList.drop k).map digI).reverse).length*8≤140737488355328:=by rw[List.length_reverse,List.length_map,List.length_drop];omega
             simp (maxSteps:=2000000) only[↓awA,awB,evA,envE,ofV,putE,listH,setRow,spl,oneP,guardB,frzA,mapO,allSc,closeA,shiftA,shiftR,flatA,flat0,scA,Row.len,fillW,rep,chunks,closed1,Value.oneCell',Nat.reduceAdd,reduceIte,reduceCtorEq,Nat.reduceLT,Nat.reduceLeDiff,Nat.reduceEqDiff,Nat.reduceSub,Nat.reduceMul,frz1,frzR,eq_self,and_self,tys,  pd_ge,pd_le,h3,pd_nat,e2,hlo,hhi,hw,hc1,hc2,hsn,hln,hbn,spQ_lit]
             refine loopQ_next k ?_ ⟨by omega,by rw[hd,List.all_cons,hdx,hA];rfl⟩ (by omega)
             simp[Weak,weakL,weakR,weakV,nilV,nilR,okA,listH,deads,pinR,isVarB,pin_pins]
           · have hdx:isD x=false:=by rw[isD_int,hlo,hhi];rfl
             have hall:u.data.toList.all isD=false:=List.all_eq_false.2 ⟨x,List.mem_of_getElem? hx,by rw[hdx];simp⟩
             rw[hall]
             simp (maxSteps:=2000000) only[↓awA,awB,evA,envE,ofV,putE,listH,setRow,spl,oneP,guardB,frzA,mapO,allSc,closeA,shiftA,shiftR,flatA,flat0,scA,Row.len,fillW,rep,chunks,closed1,Value.oneCell',Nat.reduceAdd,reduceIte,reduceCtorEq,Nat.reduceLT,Nat.reduceLeDiff,Nat.reduceEqDiff,Nat.reduceSub,Nat.reduceMul,frz1,frzR,eq_self,and_self,tys,  pd_ge,pd_le,h3,pd_nat,e2,hlo,hhi,hR]
         · have hdx:isD x=false:=by rw[isD_int,hlo];rfl
           have hall:u.data.toList.all isD=false:=List.all_eq_false.2 ⟨x,List.mem_of_getElem? hx,by rw[hdx];simp⟩
           rw[hall]
           simp (maxSteps:=2000000) only[↓awA,awB,evA,envE,ofV,putE,listH,setRow,spl,oneP,guardB,frzA,mapO,allSc,closeA,shiftA,shiftR,flatA,flat0,scA,Row.len,fillW,rep,chunks,closed1,Value.oneCell',Nat.reduceAdd,reduceIte,reduceCtorEq,Nat.reduceLT,Nat.reduceLeDiff,Nat.reduceEqDiff,Nat.reduceSub,Nat.reduceMul,frz1,frzR,eq_self,and_self,tys,  pd_ge,pd_le,h3,pd_nat,e2,hlo,hR]
end Go.Proofs.YtpjodoipceddpaaGreatDoor.Aw
namespace Go.Proofs.YtpjodoipceddpaaGreatDoor.Aw
open Go.RowKit Go.Lib Rc
set_option maxHeartbeats 8000000
set_option maxRecDepth 100000
theorem digs_len :∀(k u:Nat),u<10 ^ k→(digs u).length≤k
 |0,u,h=>by
  have:u=0:=by simpa using h
  rw[this,digs_zero]
  exact Nat.le_refl _
 |k+1,u,h=>by
  by_cases h0:u=0
  · rw[h0,digs_zero]
    exact Nat.zero_le _
  · rw[digs_pos (by omega),List.length_cons]
    have:=digs_len k (u / 10) (by rw[Nat.pow_succ] at h;omega)
    omega
def dI (u:Nat):List Int:=(digs u).map Int.ofNat
theorem dI_pos {u:Nat} (h:0<u):dI u=((u % 10:Nat):Int)::dI (u / 10):=by
 unfold dI
 rw[digs_pos h]
 rfl
theorem dI_mem {u:Nat}:∀d∈dI u,0≤d∧d<10:=by
 induction u using Nat.strongRecOn with
 |_ u ih=>
  intro d hd
  by_cases h:u=0
  · rw[h] at hd
    unfold dI at hd
    rw[digs_zero] at hd
    cases hd
  · rw[dI_pos (by omega),List.mem_cons] at hd
    rcases hd with rfl|hd
    · omega
    · exact ih (u / 10) (by omega) d hd
theorem spN_lit :(spN.lit=true)=False:=eq_false (fun h=>by cases h)
theorem of_con (n:Int) (h1: -9223372036854775808≤n) (h2:n≤9223372036854775807) (w:World):ConAt Tryz.prog w 58 (eI n) (.agg [.ro ((dI n.natAbs).map eI),.sc (.bool (decide (n<0)))]) []:=by
 unfold eI
 refine con_of_aw (sp:=spN) (Φ:=fun _=>True) [] (fun w _=>spN_ok w) (by kernel_rfl) Tryz.func58 rfl ?_ w trivial
 intro hLen
 simp only[Tryz.ntmps58,List.length_cons,List.length_nil,Nat.reduceAdd,Nat.reduceSub,List.replicate_succ,List.replicate_zero,List.cons_append,List.nil_append]
 simp (maxSteps:=2000000) only[↓awA,awB,evA,envE,ofV,putE,listH,setRow,spl,oneP,guardB,frzA,mapO,allSc,closeA,shiftA,shiftR,flatA,flat0,scA,Row.len,fillW,rep,chunks,closed1,Value.oneCell',Nat.reduceAdd,reduceIte,reduceCtorEq,Nat.reduceLT,Nat.reduceLeDiff,Nat.reduceEqDiff,Nat.reduceSub,Nat.reduceMul,frz1,frzR,eq_self,and_self,tys,  Tryz.results58]
 have hlen:(dI n.natAbs).length≤20:=by
  unfold dI
  rw[List.length_map]
  exact digs_len 20 n.natAbs (by omega)
 refine aw_loop (fun st:Int×List Int=>[.sc (.int .i64 st.1),.dead,.ptr 0 0,.ptr 1 0]++deads 20) (fun st=>[.var [.sc (.slice none 0 0),.sc (.bool false)] 92,.var [.sl 2 st.2.length,.sc (.bool (decide (n<0)))] 92,.lst 1 (st.2.map eI) 3])
  (fun st=> -9223372036854775808≤st.1∧st.1≤9223372036854775807∧st.2++dI st.1.natAbs=dI n.natAbs) (fun st=>st.1.natAbs) (n,[]) ?_ ⟨h1,h2,rfl⟩ ?_ (fun _ _=>trivial)
 · simp[Weak,weakL,weakR,weakV,nilV,nilR,okA,listH,deads,pinR,isVarB,pin_pins]
 rintro⟨m,D⟩ ⟨hm1,hm2,hA⟩
 simp only at hm1 hm2 hA
 simp only[deads,List.replicate_succ,List.replicate_zero,List.cons_append,List.nil_append]
 by_cases h0:m=0
 · subst h0
   have hD:D=dI n.natAbs:=by
    rw[←hA]
    unfold dI
    rw[show Int.natAbs 0=0 from rfl,digs_zero]
    simp
   have c:((0:Int) !=0)=false:=rfl
   rw[←hD]
   simp (maxSteps:=2000000) only[↓awA,awB,evA,envE,ofV,putE,listH,setRow,spl,oneP,guardB,frzA,mapO,allSc,closeA,shiftA,shiftR,flatA,flat0,scA,Row.len,fillW,rep,chunks,closed1,Value.oneCell',Nat.reduceAdd,reduceIte,reduceCtorEq,Nat.reduceLT,Nat.reduceLeDiff,Nat.reduceEqDiff,Nat.reduceSub,Nat.reduceMul,frz1,frzR,eq_self,and_self,tys,  c,Tryz.results58]
   rfl
 · have c:(m !=0)=true:=bne_iff_ne.2 h0
   have hd:=dI_pos (u:=m.natAbs) (by omega)
   rw[hd] at hA
   have htm:m.tmod 10=if m<0 then -((m.natAbs % 10:Nat):Int) else((m.natAbs % 10:Nat):Int):=by
    split
    · have e:m= -(m.natAbs:Int):=by omega
      rw[e,Int.neg_tmod,Int.natAbs_neg,Int.natAbs_natCast]
      rfl
    · have e:m=(m.natAbs:Int):=by omega
      rw[e,Int.natAbs_natCast]
      rfl
   have htd:m.tdiv 10=if m<0 then -((m.natAbs / 10:Nat):Int) else((m.natAbs / 10:Nat):Int):=by
    split
    · have e:m= -(m.natAbs:Int):=by omega
      rw[e,Int.neg_tdiv,Int.natAbs_neg,Int.natAbs_natCast]
      rfl
    · have e:m=(m.natAbs:Int):=by omega
      rw[e,Int.natAbs_natCast]
      rfl
   have h10:((10:Int)=0)=False:=by simp
   have hng:IntKind.i64.wrap (0 - m.tmod 10)= -(m.tmod 10):=by
    rw[IntWalk.i64_in _ (by rw[htm];split<;>omega)]
    omega
   have hmx:(if -(m.tmod 10)>m.tmod 10 then -(m.tmod 10) else m.tmod 10)=((m.natAbs % 10:Nat):Int):=by
    rw[htm]
    split<;>split<;>omega
   have hwd:IntKind.i64.wrap (m.tdiv 10)=m.tdiv 10:=IntWalk.i64_in _ (by rw[htd];split<;>omega)
   have hna:(m.tdiv 10).natAbs=m.natAbs / 10:=by
    rw[htd]
    split
    · rw[Int.natAbs_neg,Int.natAbs_natCast]
    · rw[Int.natAbs_natCast]
   have hsn:D.map eI++[[.sc (.int .i64 ((m.natAbs % 10:Nat):Int))]]=(D++[((m.natAbs % 10:Nat):Int)]).map eI:=by
    rw[List.map_append]
    rfl
   have hdl:D.length+1≤20:=by
    have:=congrArg List.length hA
    rw[List.length_append,List.length_cons] at this
    omega
   have hbn:(D.length+1)*8≤140737488355328:=by omega
   simp (maxSteps:=2000000) only[↓awA,awB,evA,envE,ofV,putE,listH,setRow,spl,oneP,guardB,frzA,mapO,allSc,closeA,shiftA,shiftR,flatA,flat0,scA,Row.len,fillW,rep,chunks,closed1,Value.oneCell',Nat.reduceAdd,reduceIte,reduceCtorEq,Nat.reduceLT,Nat.reduceLeDiff,Nat.reduceEqDiff,Nat.reduceSub,Nat.reduceMul,frz1,frzR,eq_self,and_self,tys,  c,h10,hng,hmx,hwd,hsn,hbn,spN_lit,List.length_append]
   refine loopQ_next (m.tdiv 10,D++[((m.natAbs % 10:Nat):Int)]) ?_ ⟨by show _≤m.tdiv 10;rw[htd];split<;>omega,by show m.tdiv 10≤_;rw[htd];split<;>omega, ?_⟩ (by show (m.tdiv 10).natAbs<m.natAbs;rw[hna];omega)
   · simp[Weak,weakL,weakR,weakV,nilV,nilR,okA,listH,deads,pinR,isVarB,pin_pins,  List.length_append]
   · show (D++[_])++dI (m.tdiv 10).natAbs=_
     rw[hna,List.append_assoc]
     exact hA
noncomputable def spO :Spec:=(spN.tell 58 (byE eI (fun n=> -9223372036854775808≤n∧n≤9223372036854775807) (fun n=>.agg [.ro ((dI n.natAbs).map eI),.sc (.bool (decide (n<0)))]))).lits
theorem spO_at {n:Int}:spO.call 58 [.sc (.int .i64 n)]=some ((-9223372036854775808≤n∧n≤9223372036854775807),.agg [.ro ((dI n.natAbs).map eI),.sc (.bool (decide (n<0)))],[]):=by
 unfold spO
 rw[lits_call,tell_same]
 exact byE_eq (fun _ _=>eI_inj) n
theorem spO_ok (w:World) {fp:Nat→Prop}:SpecOk Tryz.prog spO w fp:=
 lits_ok<|tell_ok (spN_ok w) (enters_of' Tryz.func58 (by kernel_rfl)) (byE_ok fun a h w _=>of_con a h.1 h.2 w)
theorem spO_lit :(spO.lit=true)=True:=eq_true rfl
def dB (d:Int):UInt8:=UInt8.ofNat (48+d.toNat)
theorem bt_app (l m:T):bt l++bt m=bt (l++m):=by
 unfold bt
 apply ByteArray.ext
 simp
theorem put_dI (n:Int):putM n=if(dI n.natAbs).length=0 then [48] else if n<0 then 45::((dI n.natAbs).map dB).reverse else((dI n.natAbs).map dB).reverse:=by
 have h1:(dI n.natAbs).map dB=(digs n.natAbs).map fun d=>UInt8.ofNat (48+d):=by
  unfold dI
  rw[List.map_map]
  rfl
 have h2:((dI n.natAbs).length=0)=(digs n.natAbs=[]):=by
  unfold dI
  rw[List.length_map,List.length_eq_zero_iff]
 unfold putM
 simp only[h1,h2]
theorem put6_con (n:Int) (h1: -9223372036854775808≤n) (h2:n≤9223372036854775807) (w:World):ConAt Tryz.prog w 39 (eI n) (.sc (.string (bt (itoa n)))) []:=by
 rw[←put_itoa,put_dI]
 unfold eI
 refine con_of_aw (sp:=spO) (Φ:=fun _=>True) [] (fun w _=>spO_ok w) (by kernel_rfl) Tryz.func39 rfl ?_ w trivial
 intro hLen
 simp only[Tryz.ntmps39,List.length_cons,List.length_nil,Nat.reduceAdd,Nat.reduceSub,List.replicate_succ,List.replicate_zero,List.cons_append,List.nil_append]
 have hlen:(dI n.natAbs).length≤20:=by
  unfold dI
  rw[List.length_map]
  exact digs_len 20 n.natAbs (by omega)
 have hm:=dI_mem (u:=n.natAbs)
 have hn:=eq_true (⟨h1,h2⟩: -9223372036854775808≤n∧n≤9223372036854775807)
 obtain⟨D,hD⟩:∃D,D=dI n.natAbs:=⟨_,rfl⟩
 rw[←hD] at hlen hm⊢
 simp (maxSteps:=2000000) only[↓awA,awB,evA,envE,ofV,putE,listH,setRow,spl,oneP,guardB,frzA,mapO,allSc,closeA,shiftA,shiftR,flatA,flat0,scA,Row.len,fillW,rep,chunks,closed1,Value.oneCell',Nat.reduceAdd,reduceIte,reduceCtorEq,Nat.reduceLT,Nat.reduceLeDiff,Nat.reduceEqDiff,Nat.reduceSub,Nat.reduceMul,frz1,frzR,eq_self,and_self,tys,  spO_at,←hD,h1,h2,Tryz.results39]
 refine aw_loop (fun i:Nat=>[.dead,.dead,.dead,.ptr 0 0,.sc (.string (bt ((D.take i).map dB).reverse)),.sc (.int .i64 (i:Int))]++deads 27) (fun _=>[.var [.ro (D.map eI),.sc (.bool (decide (n<0)))] 92])
  (fun i=>i≤D.length) (fun i=>D.length - i) 0 ?_ (Nat.zero_le _) ?_ (fun _ _=>by rw[show spO.pins=0 from rfl];trivial)
 · simp[Weak,weakL,weakR,weakV,nilV,nilR,okA,listH,deads,pinR,isVarB,pin_pins,  bt]
 intro i hi
 simp only[deads,List.replicate_succ,List.replicate_zero,List.cons_append,List.nil_append]
 by_cases hlt:i<D.length
 · obtain⟨x,hx⟩:∃x,D[i]? =some x:=⟨_,List.getElem?_eq_getElem hlt⟩
   have e2:at_ (D.map eI) i=eI x:=at_some hx
   have hxm:=hm x (List.mem_of_getElem? hx)
   have hw:=wr_lt hlt (by omega)
   have hv1:IntKind.i64.wrap (48+x)=48+x:=IntWalk.i64_in _ (by omega)
   have hv2:IntKind.u8.wrap (48+x)=48+x:=by rw[IntKind.wrap_u8];omega
   have hne:([48+x]:List Int)≠[]:=by simp
   have hst:strOfNums [48+x]=bt [dB x]:=by
    unfold strOfNums bt dB
    rw[List.map_singleton]
    congr 4
    omega
   have hap:bt [dB x]++bt ((D.take i).map dB).reverse=bt ((D.take (i+1)).map dB).reverse:=by
    rw[bt_app,take_at hx,List.map_append,List.reverse_append]
    rfl
   have hsz:(bt [dB x]).size+(bt ((D.take i).map dB).reverse).size≤9223372036854775807:=by
    rw[←ByteArray.size_append,hap]
    show ((D.take (i+1)).map dB).reverse.toArray.size≤_
    simp
    omega
   simp (maxSteps:=2000000) only[↓awA,awB,evA,envE,ofV,putE,listH,setRow,spl,oneP,guardB,frzA,mapO,allSc,closeA,shiftA,shiftR,flatA,flat0,scA,Row.len,fillW,rep,chunks,closed1,Value.oneCell',Nat.reduceAdd,reduceIte,reduceCtorEq,Nat.reduceLT,Nat.reduceLeDiff,Nat.reduceEqDiff,Nat.reduceSub,Nat.reduceMul,frz1,frzR,eq_self,and_self,tys,  hlt,e2,eI,hv1,hv2,hst,spO_lit,u8s,hne,hsz,hap]
   refine loopQ_next (i+1) ?_ hlt (by omega)
   simp[Weak,weakL,weakR,weakV,nilV,nilR,okA,listH,deads,pinR,isVarB,pin_pins,  hw]
 · have hti:D.take i=D:=List.take_of_length_le (by omega)
   have hsz:(bt (D.map dB).reverse).size≤20:=by
    show ((D.map dB).reverse.toArray.size)≤20
    simpa using hlen
   have hE:decide (bt (D.map dB).reverse=⟨#[]⟩)=decide (D.length=0):=by
    rw[isEmpty_dec,list_bt,decide_eq_decide]
    simp
   by_cases h0:D.length=0
   · have c:=decide_eq_true h0
     rw[if_pos h0]
     simp (maxSteps:=2000000) only[↓awA,awB,evA,envE,ofV,putE,listH,setRow,spl,oneP,guardB,frzA,mapO,allSc,closeA,shiftA,shiftR,flatA,flat0,scA,Row.len,fillW,rep,chunks,closed1,Value.oneCell',Nat.reduceAdd,reduceIte,reduceCtorEq,Nat.reduceLT,Nat.reduceLeDiff,Nat.reduceEqDiff,Nat.reduceSub,Nat.reduceMul,frz1,frzR,eq_self,and_self,tys,  hlt,hti,hE,c,Tryz.results39]
     rfl
   · have c:=decide_eq_false h0
     rw[if_neg h0]
     by_cases hneg:n<0
     · have cn:=decide_eq_true hneg
       have hs2:(⟨#[45]⟩:ByteArray).size+(bt (D.map dB).reverse).size≤9223372036854775807:=by
        show 1+_≤_
        omega
       have hap:(⟨#[45]⟩:ByteArray)++bt (D.map dB).reverse=bt (45::(D.map dB).reverse):=bt_app [45] _
       rw[if_pos hneg]
       simp (maxSteps:=2000000) only[↓awA,awB,evA,envE,ofV,putE,listH,setRow,spl,oneP,guardB,frzA,mapO,allSc,closeA,shiftA,shiftR,flatA,flat0,scA,Row.len,fillW,rep,chunks,closed1,Value.oneCell',Nat.reduceAdd,reduceIte,reduceCtorEq,Nat.reduceLT,Nat.reduceLeDiff,Nat.reduceEqDiff,Nat.reduceSub,Nat.reduceMul,frz1,frzR,eq_self,and_self,tys,  hlt,hti,hE,c,cn,hs2,hap,Tryz.results39]
     · have cn:=decide_eq_false hneg
       rw[if_neg hneg]
       simp (maxSteps:=2000000) only[↓awA,awB,evA,envE,ofV,putE,listH,setRow,spl,oneP,guardB,frzA,mapO,allSc,closeA,shiftA,shiftR,flatA,flat0,scA,Row.len,fillW,rep,chunks,closed1,Value.oneCell',Nat.reduceAdd,reduceIte,reduceCtorEq,Nat.reduceLT,Nat.reduceLeDiff,Nat.reduceEqDiff,Nat.reduceSub,Nat.reduceMul,frz1,frzR,eq_self,and_self,tys,  hlt,hti,hE,c,cn,Tryz.results39]
end Go.Proofs.YtpjodoipceddpaaGreatDoor.Aw
