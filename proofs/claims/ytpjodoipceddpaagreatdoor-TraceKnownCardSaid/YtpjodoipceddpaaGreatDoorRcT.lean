/- Traces: the law TraceBack, of what the closed law asks: walked abstractly. -/
import Derived.Test.YtpjodoipceddpaaGreatDoorRcS
import Derived.Test.YtpjodoipceddpaaGreatDoorRcP
import Derived.Test.YtpjodoipceddpaaGreatDoorRcMn
namespace Go.Proofs.YtpjodoipceddpaaGreatDoor.Aw
open Go.RowKit Go.Lib Rc
set_option maxHeartbeats 8000000
set_option maxRecDepth 100000
theorem lineP_shr {t:T} {r:RecM} (h:lineP nmB t=some r):r.list.length≤t.length+1∧r.name.length≤t.length+1:=by
 have hpc:=pieces_len2 t
 unfold lineP at h
 split at h
 · cases h
 · rename_i w0 ws hp
   rw[hp,List.length_cons] at hpc
   split at h
   · cases h
   · rename_i o ho
     split at h
     · cases h
     · rename_i r' hr
       split at h
       · cases h
         have h1:=rec_len (o:=o) (l:=ws) (b:=t.length+1) (by omega) (by omega) (fun x hx=>by have:=hpc.2 x (List.mem_cons_of_mem _ hx);omega)
         rw[recV_eq] at hr
         split at hr
         · cases hr
           exact h1
         · cases hr
       · cases h
theorem readAll_shr {M:Nat}:∀(f:Nat) (s:T) (p:Nat) (acc:List RecM),s.length≤M→(∀r∈acc,r.list.length≤M+1∧r.name.length≤M+1)→∀r∈(readAll (lineP nmB) f s p acc).1,r.list.length≤M+1∧r.name.length≤M+1:=by
 intro f
 induction f with
 |zero=>intro s p acc _ _;simp[readAll]
 |succ f ih=>
  intro s p acc hs hacc
  rw[readAll]
  split
  · exact hacc
  · split
    · simp
    · rename_i t r h
      have hc:=cutL_len _ _ h
      simp only at hc
      split
      · simp
      · rename_i x hx
        have hxl:=lineP_shr hx
        exact ih r (p+t.length+1) (acc++[x]) (by omega) (fun y hy=>by
         rcases List.mem_append.1 hy with hy|hy
         · exact hacc y hy
         · rw[List.mem_singleton] at hy
           rw[hy]
           omega)
theorem get_shs {s:T} (hs:s.length≤900):Shs (getM (lineP nmB) s).1:=by
 refine⟨by have:=(get_sml (.inl hs)).1;omega,fun r hr=> ?_⟩
 have h1:=getM_in s r hr
 unfold getM at hr
 rw[if_neg (by omega)] at hr
 have:=readAll_shr (M:=900) _ _ _ _ hs (fun r hr=>by cases hr) r hr
 exact⟨by omega,by omega,h1⟩
theorem readAll_err :∀(f:Nat) (s:T) (p:Nat) (acc:List RecM),(readAll (lineP nmB) f s p acc).2.2≠0→(readAll (lineP nmB) f s p acc).1=[]
 |0,s,p,acc,h=>rfl
 |f+1,s,p,acc,h=>by
  rw[readAll] at h⊢
  split
  · rename_i hs
    rw[if_pos hs] at h
    exact absurd rfl h
  · rename_i hs
    rw[if_neg hs] at h
    cases hc:cutL s with
    |none=>rfl
    |some x=>
     obtain⟨t,r⟩:=x
     rw[hc] at h
     simp only at h⊢
     cases hl:lineP nmB t with
     |none=>rfl
     |some y=>
      rw[hl] at h
      exact readAll_err f _ _ _ h
theorem getM_err {s:T} (h:(getM (lineP nmB) s).2.2≠0):(getM (lineP nmB) s).1=[]:=by
 unfold getM at h⊢
 split
 · rfl
 · rename_i hs
   rw[if_neg hs] at h
   exact readAll_err _ _ _ _ h
theorem ref31nil_con (w:World):ConAt Tryz.prog w 9 [.ro (cRl [])] (.sc (.slice none 0 0)) []:=by
 refine con_flat fun S vs hS hlen hv=> ?_
 match vs,hlen with
 |[u],_=>
  obtain⟨A,c,hu⟩:=ro_one (hv 0 _ u rfl rfl)
  have hu:u=.slice A 0 c:=hu
  subst hu
  clear hv hS
  go_enter Tryz.func9,Tryz.ntmps9
  go_wp2_with fail
  refine wp_loop_rounds 1 ?_
  rw[rounds_succ]
  go_wp2_with fail
  go_ret
  exact⟨rfl,Fr.refl _ _⟩
def avL (X:List RecM):AV:=match X with|[]=>.sc (.slice none 0 0)|x::X=>.ro (cRl (x::X))
def eAv2 (X:List RecM):List AV:=[.ro (cRl X),.ro (cRl X)]
theorem eAv2_inj (x y:List RecM) (h:eAv2 x=eAv2 y):x=y:=eRl2_inj x y h
noncomputable def spTB :Spec:=(((((spN.tell 25 (byE eRl Few (fun _=>.sc (.bool true)))).tell
 5 (byE (fun _:Unit=>[]) (fun _=>True) (fun _=>.sc (.bool true)))).tell
 13 (byE eRl Shs (fun X=>.tup [.sc (.string (bt (putA [] X).1)),.sc (.int .i64 (putA [] X).2)]))).tell
 9 (byE eRl Sml avL)).tell
 7 (byE eS (fun s=>s.size≤900) (fun s=>.tup [.ro (cRl (getM (lineP nmB) s.data.toList).1),.sc (.int .i64 (getM (lineP nmB) s.data.toList).2.1),.sc (.int .i64 (getM (lineP nmB) s.data.toList).2.2)]))).tell
 8 (byE eAv2 Sml (fun _=>.sc (.bool true)))
theorem spTB_ok (w:World) (hst:TrS w):SpecOk Tryz.prog spTB w (fun _=>False):=
 tell_ok (tell_ok (tell_ok (tell_ok (tell_ok (tell_ok (spN_ok w)
  (enters_of' Tryz.func25 (by kernel_rfl)) (byE_ok fun X h w' _=>few31_con X h w'))
  (enters_of' Tryz.func5 (by kernel_rfl)) (byE_ok fun _ _ w' hf=>works31_con w' (hst.fr hf)))
  (enters_of' Tryz.func13 (by kernel_rfl)) (byE_ok fun X h w' hf=>tput_con X h.1 h.2 w' (hst.fr hf).1))
  (enters_of' Tryz.func9 (by kernel_rfl)) (byE_ok fun X h w' _=>by
   cases X with
   |nil=>exact ref31nil_con w'
   |cons x X=>exact ref31_con (x::X) h w'))
  (enters_of' Tryz.func7 (by kernel_rfl)) (byE_ok fun s h w' hf=>get_con s (.inl h) w' (hst.fr hf)))
  (enters_of' Tryz.func8 (by kernel_rfl)) (byE_ok fun X h w' _=>same31_con X h w')
theorem spTB_lit :(spTB.lit=true)=False:=eq_false (fun h=>by cases h)
theorem spTB_pins :(spTB.pins=0)=True:=eq_true rfl
theorem spTB_few {X:List RecM}:spTB.call 25 [.ro (cRl X)]=some (Few X,.sc (.bool true),[]):=by
 unfold spTB
 rw[tell_ne (by rfl),tell_ne (by rfl),tell_ne (by rfl),tell_ne (by rfl),tell_ne (by rfl),tell_same]
 exact byE_eq eRl_inj X
theorem spTB_works :spTB.call 5 []=some (True,.sc (.bool true),[]):=by
 unfold spTB
 rw[tell_ne (by rfl),tell_ne (by rfl),tell_ne (by rfl),tell_ne (by rfl),tell_same]
 exact byE_eq (enc:=fun _:Unit=>[]) (fun _ _ _=>rfl) ()
theorem spTB_put {X:List RecM}:spTB.call 13 [.ro (cRl X)]=some (Shs X,.tup [.sc (.string (bt (putA [] X).1)),.sc (.int .i64 (putA [] X).2)],[]):=by
 unfold spTB
 rw[tell_ne (by rfl),tell_ne (by rfl),tell_ne (by rfl),tell_same]
 exact byE_eq eRl_inj X
theorem spTB_ref {X:List RecM}:spTB.call 9 [.ro (cRl X)]=some (Sml X,avL X,[]):=by
 unfold spTB
 rw[tell_ne (by rfl),tell_ne (by rfl),tell_same]
 exact byE_eq eRl_inj X
theorem spTB_get {s:ByteArray}:spTB.call 7 [.sc (.string s)]=some (s.size≤900,.tup [.ro (cRl (getM (lineP nmB) s.data.toList).1),.sc (.int .i64 (getM (lineP nmB) s.data.toList).2.1),.sc (.int .i64 (getM (lineP nmB) s.data.toList).2.2)],[]):=by
 unfold spTB
 rw[tell_ne (by rfl),tell_same]
 exact byE_eq (fun _ _=>eS_inj) s
theorem spTB_same {X:List RecM}:spTB.call 8 [.ro (cRl X),.ro (cRl X)]=some (Sml X,.sc (.bool true),[]):=by
 unfold spTB
 rw[tell_same]
 exact byE_eq eAv2_inj X
theorem nil_get :spTB.call 7 [.sc (.string ⟨#[]⟩)]=some (True,.tup [.ro (cRl []),.sc (.int .i64 0),.sc (.int .i64 0)],[]):=by
 rw[spTB_get]
 exact congrArg (fun p=>some (p,_,_)) (eq_true (by decide))
theorem nil_put :spTB.call 13 [.ro (cRl [])]=some (Shs [],.tup [.sc (.string ⟨#[]⟩),.sc (.int .i64 0)],[]):=spTB_put (X:=[])
theorem nil_ref :spTB.call 9 [.ro (cRl [])]=some (Sml [],.sc (.slice none 0 0),[]):=spTB_ref (X:=[])
theorem nil_same :spTB.call 8 [.ro [],.ro []]=some (Sml [],.sc (.bool true),[]):=spTB_same (X:=[])
theorem nil_shs :Shs []:=⟨by simp,fun r hr=>by cases hr⟩
theorem nil_sml :Sml []:=⟨by simp,fun r hr=>by cases hr⟩
theorem some_ref {X:List RecM} (h:X≠[]):spTB.call 9 [.ro (cRl X)]=some (Sml X,.ro (cRl X),[]):=by
 rw[spTB_ref]
 cases X with
 |nil=>exact absurd rfl h
 |cons x X=>rfl
theorem Shs.sml {X:List RecM} (h:Shs X):Sml X:=⟨by have:=h.1;omega,fun r hr=>by have:=(h.2 r hr).1;omega⟩
theorem backs_con (X:List RecM) (hne:X≠[]) (hF:Few X) (hs:Shs X) (hl:(putA [] X).1.length≤900) (w:World) (hst:TrS w):ConAt Tryz.prog w 11 [.ro (cRl X),.sc (.string ⟨#[]⟩)] (.sc (.bool true)) []:=by
 refine con_of_aw (sp:=spTB) (Φ:=TrS) [] (fun w h=>spTB_ok w h) (by kernel_rfl) Tryz.func11 rfl ?_ w hst
 intro hLen
 simp only[Tryz.ntmps11,List.length_cons,List.length_nil,Nat.reduceAdd,Nat.reduceSub,List.replicate_succ,List.replicate_zero,List.cons_append,List.nil_append]
 have hR:=Tryz.results11
 have hd:decide (((⟨#[]⟩:ByteArray).size:Int)>600)=false:=decide_eq_false (by decide)
 have hE:decide ((⟨#[]⟩:ByteArray)=⟨#[]⟩)=true:=decide_eq_true rfl
 have h0s:Shs []:=nil_shs
 have h0m:Sml []:=nil_sml
 have hm:=hs.sml
 have rX:=some_ref hne
 have sX:=spTB_same (X:=X)
 have p1:=spTB_put (X:=X)
 by_cases he:(putA [] X).2=0
 · obtain⟨wt,hw⟩:∃wt,putA [] X=(wt,0):=⟨_,Prod.ext rfl he⟩
   rw[hw] at p1 hl
   simp only at p1 hl
   have gX:spTB.call 7 [.sc (.string (bt wt))]=some (True,.tup [.ro (cRl X),.sc (.int .i64 0),.sc (.int .i64 0)],[]):=by
    rw[spTB_get,list_bt,get_put (fun r hr=>(hs.2 r hr).2.2) hw (by omega)]
    exact congrArg (fun p=>some (p,_,_)) (eq_true (by rw[size_bt];exact hl))
   have hap:bt wt++(⟨#[]⟩:ByteArray)=bt wt:=by
    have:=bt_app wt []
    rw[List.append_nil] at this
    exact this
   have hsz:((bt wt).size+(⟨#[]⟩:ByteArray).size≤9223372036854775807)=True:=eq_true (by rw[size_bt];have:(⟨#[]⟩:ByteArray).size=0:=rfl;omega)
   simp (maxSteps:=2000000) only[↓awA,awB,evA,envE,ofV,putE,listH,setRow,spl,oneP,guardB,frzA,mapO,allSc,closeA,shiftA,shiftR,flatA,flat0,scA,Row.len,fillW,rep,chunks,closed1,Value.oneCell',Nat.reduceAdd,reduceIte,reduceCtorEq,Nat.reduceLT,Nat.reduceLeDiff,Nat.reduceEqDiff,Nat.reduceSub,Nat.reduceMul,frz1,frzR,eq_self,and_self,tys,  hR,spTB_few,hF,hd,p1,hs,gX,rX,sX,hm,nil_get,nil_put,h0s,hE,hap,hsz,nil_ref,h0m,spTB_works,spTB_pins]
   try exact fun c h=>h.elim
 · have hw:=putA_err X he
   rw[hw] at p1
   have p1:spTB.call 13 [.ro (cRl X)]=some (Shs X,.tup [.sc (.string ⟨#[]⟩),.sc (.int .i64 2)],[]):=p1
   have hap:(⟨#[]⟩:ByteArray)++(⟨#[]⟩:ByteArray)=⟨#[]⟩:=rfl
   have hsz:((⟨#[]⟩:ByteArray).size+(⟨#[]⟩:ByteArray).size≤9223372036854775807)=True:=eq_true (by decide)
   have b1:((2:Int)==0)=false:=rfl
   have b2:((2:Int) !=0)=true:=rfl
   simp (maxSteps:=2000000) only[↓awA,awB,evA,envE,ofV,putE,listH,setRow,spl,oneP,guardB,frzA,mapO,allSc,closeA,shiftA,shiftR,flatA,flat0,scA,Row.len,fillW,rep,chunks,closed1,Value.oneCell',Nat.reduceAdd,reduceIte,reduceCtorEq,Nat.reduceLT,Nat.reduceLeDiff,Nat.reduceEqDiff,Nat.reduceSub,Nat.reduceMul,frz1,frzR,eq_self,and_self,tys,  hR,spTB_few,hF,hd,p1,hs,rX,sX,hm,nil_get,nil_put,h0s,hE,hap,hsz,nil_ref,nil_same,h0m,b1,b2,spTB_works,spTB_pins]
   try exact fun c h=>h.elim
theorem backn_con (s:ByteArray) (hs:s.size≤600) (h0:s.size≠0) (w:World) (hst:TrS w):ConAt Tryz.prog w 11 [.ro (cRl []),.sc (.string s)] (.sc (.bool true)) []:=by
 refine con_of_aw (sp:=spTB) (Φ:=TrS) [(18,frzM [0])] (fun w h=>spTB_ok w h) (by kernel_rfl) Tryz.func11 rfl ?_ w hst
 intro hLen
 simp only[Tryz.ntmps11,List.length_cons,List.length_nil,Nat.reduceAdd,Nat.reduceSub,List.replicate_succ,List.replicate_zero,List.cons_append,List.nil_append]
 have hR:=Tryz.results11
 have hd:decide ((s.size:Int)>600)=false:=decide_eq_false (by omega)
 have h0s:Shs []:=nil_shs
 have h0m:Sml []:=nil_sml
 have hF:Few []:=⟨by simp,fun r hr=>(by cases hr),fun r hr=>(by cases hr)⟩
 have hll:(cRl []).length=0:=rfl
 have hsh:=get_shs (s:=s.data.toList) (by show s.size≤900;omega)
 have hEr:=getM_err (s:=s.data.toList)
 have hgs:=spTB_get (s:=s)
 rw[eq_true (show s.size≤900 by omega)] at hgs
 have hpg:=fun(Y:List RecM) (q:Nat) (h:getM (lineP nmB) s.data.toList=(Y,q,0))=>put_get h
 obtain⟨G,hG⟩:∃G,G=getM (lineP nmB) s.data.toList:=⟨_,rfl⟩
 rw[←hG] at hsh hEr hgs hpg
 obtain⟨Y,q,e⟩:=G
 simp only at hsh hEr hgs
 clear hG
 cases he:(e==0)
 · have hY:Y=[]:=hEr (by simpa using he)
   subst hY
   have hne:(e !=0)=true:=by rw[bne,he];rfl
   have z0:(((0:Nat):Int)==0)=true:=rfl
   simp (maxSteps:=2000000) only[↓awA,awB,evA,envE,ofV,putE,listH,setRow,spl,oneP,guardB,frzA,mapO,allSc,closeA,shiftA,shiftR,flatA,flat0,scA,Row.len,fillW,rep,chunks,closed1,Value.oneCell',Nat.reduceAdd,reduceIte,reduceCtorEq,Nat.reduceLT,Nat.reduceLeDiff,Nat.reduceEqDiff,Nat.reduceSub,Nat.reduceMul,frz1,frzR,eq_self,and_self,tys,  hR,spTB_few,hF,hd,nil_get,nil_put,h0s,nil_ref,nil_same,h0m,hgs,hne,hll,z0,spTB_works,spTB_pins]
 · have he0:e=0:=by simpa using he
   subst he0
   have hp:=hpg Y q rfl
   have pY:=spTB_put (X:=Y)
   rw[hp] at pY
   simp only at pY
   rw[bt_list] at pY
   have hne:Y≠[]:=fun h=>by
    rw[h] at hp
    have:=congrArg (fun x=>x.1.length) hp
    simp only[putA,List.length_nil] at this
    exact h0 this.symm
   have rY:=some_ref hne
   have sY:=spTB_same (X:=Y)
   have hm:=hsh.sml
   have hss:decide (s=s)=true:=decide_eq_true rfl
   have hap:(⟨#[]⟩:ByteArray)++s=s:=by
    have:=bt_app [] s.data.toList
    rw[List.nil_append,bt_list] at this
    exact this
   have hsz:((⟨#[]⟩:ByteArray).size+s.size≤9223372036854775807)=True:=eq_true (by have:(⟨#[]⟩:ByteArray).size=0:=rfl;omega)
   have hwd:(∀c∈cRl Y,c.length=5)=True:=eq_true (fun c hc=>by
    unfold cRl at hc
    obtain⟨r, -,rfl⟩:=List.mem_map.1 hc
    rfl)
   have hlY:=cRl_len Y
   have hb:Y.length*64≤140737488355328:=by have:=hsh.1;omega
   simp (maxSteps:=2000000) only[↓awA,awB,evA,envE,ofV,putE,listH,setRow,spl,oneP,guardB,frzA,mapO,allSc,closeA,shiftA,shiftR,flatA,flat0,scA,Row.len,fillW,rep,chunks,closed1,Value.oneCell',Nat.reduceAdd,reduceIte,reduceCtorEq,Nat.reduceLT,Nat.reduceLeDiff,Nat.reduceEqDiff,Nat.reduceSub,Nat.reduceMul,frz1,frzR,eq_self,and_self,tys,  hR,spTB_few,hF,hd,nil_get,nil_put,h0s,nil_ref,nil_same,h0m,hgs,hll,pY,hsh,hss,hap,hsz,rY,sY,hm,hwd,hlY,hb,spTB_lit,spTB_works,spTB_pins]
end Go.Proofs.YtpjodoipceddpaaGreatDoor.Aw
