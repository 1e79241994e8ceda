/- Traces: what the library answers, as abstract walks ask for it. -/
import Derived.Test.YtpjodoipceddpaaGreatDoorRecWf
import Derived.Test.YtpjodoipceddpaaGreatDoorRecAb
import Derived.Test.YtpjodoipceddpaaGreatDoorShelf
import Derived.Test.YtpjodoipceddpaaGreatDoorRecGh
namespace Go.Proofs.YtpjodoipceddpaaGreatDoor.Aw
open Go.RowKit Go.Lib Go.Sort Rc
set_option maxHeartbeats 4000000
set_option maxRecDepth 100000
theorem con_sc {P:Program} {w:World} {f:FuncId} {vl:List Value} {u:Value} (h:Calls P f vl.toArray w fun e w'=>e=.returned u∧Fr (fun _=>False) w w'):ConAt P w f (vl.map .sc) (.sc u) []:=by
 refine con_flat fun S vs hS hl hv=> ?_
 have hl2:vs.length=vl.length:=by rw[←hl,List.length_map]
 have:vs=vl:=by
  apply List.ext_getElem hl2
  intro i h1 h2
  exact(hv i (.sc vl[i]) vs[i] (by rw[List.getElem?_map,List.getElem?_eq_getElem h2];rfl) (List.getElem?_eq_getElem h1)).sc_inv
 rw[this]
 exact h
theorem calls_sc {P:Program} {w:World} {f:FuncId} {vl:List Value} {u:Value} (h:ConAt P w f (vl.map .sc) (.sc u) []):Calls P f vl.toArray w fun e w'=>e=.returned u∧Fr (fun _=>False) w w':=by
 refine(h (fun _=>False) vl (fun _ h=>h.elim) (by simp) (fun i x v h1 h2=> ?_)).mono fun e w' ⟨v,I,he,hm,hv⟩=>⟨by rw[he,hv.sc_inv],hm.fr⟩
 rw[getElem?_map_sc h1 h2]
 exact .sc v
theorem fr_grow (w:World) (k:Nat) (os:Array Obj):Fr (fun _=>False) w (grow (w.drewN k) os):=by
 refine⟨rfl,rfl,rfl, ?_,fun i hi _=> ?_⟩
 · show w.heap.size≤(w.heap++os).size
   simp
 · show (w.heap++os)[i]? =_
   rw[Array.getElem?_append_left hi]
def eF (n:Int):List AV:=[.sc (.int .i64 n),.sc (.int .i64 10)]
theorem eF_inj (x y:Int) (h:eF x=eF y):x=y:=by unfold eF at h;simpa using h
theorem format_con (n:Int) (h0: -9223372036854775808≤n) (h1:n≤9223372036854775807) (w:World) (hst:TrSt w):ConAt Tryz.prog w 64 (eF n) (.sc (.string (bt (itoa n)))) []:=
 con_sc (vl:=[.int .i64 n,.int .i64 10]) ((Tryz.strconv_FormatInt_10 n h0 h1 w hst.tab).mono fun e w' ⟨he,k,os,hw⟩=>⟨he,by rw[hw];exact fr_grow w k os⟩)
noncomputable def spV :Spec:=spN.tell 64 (byE eF (fun n=> -9223372036854775808≤n∧n≤9223372036854775807) (fun n=>.sc (.string (bt (itoa n)))))
theorem spV_at {n:Int}:spV.call 64 [.sc (.int .i64 n),.sc (.int .i64 10)]=some ((-9223372036854775808≤n∧n≤9223372036854775807),.sc (.string (bt (itoa n))),[]):=by
 unfold spV
 rw[tell_same]
 exact byE_eq eF_inj n
theorem spV_ok (w:World) (hst:TrSt w):SpecOk Tryz.prog spV w (fun _=>False):=
 tell_ok (spN_ok w) (enters_of' Tryz.func64 (by kernel_rfl)) (byE_ok fun a h w' hf=>format_con a h.1 h.2 w' (hst.fr hf))
theorem put_con (n:Int) (h0: -9223372036854775808≤n) (h1:n≤9223372036854775807) (w:World) (hst:TrSt w):ConAt Tryz.prog w 48 (eI n) (.sc (.string (bt (itoa n)))) []:=by
 unfold eI
 refine con_of_aw (sp:=spV) (Φ:=TrSt) [] (fun w h=>spV_ok w h) (by kernel_rfl) Tryz.func48 rfl ?_ w hst
 intro hLen
 simp only[Tryz.ntmps48,List.length_cons,List.length_nil,Nat.reduceAdd,Nat.reduceSub,List.replicate_succ,List.replicate_zero,List.cons_append,List.nil_append]
 simp (maxSteps:=2000000) only[↓awA,awB,evA,envE,ofV,putE,listH,setRow,spl,oneP,guardB,frzA,mapO,allSc,closeA,shiftA,shiftR,flatA,flat0,scA,Row.len,fillW,rep,chunks,closed1,Value.oneCell',Nat.reduceAdd,reduceIte,reduceCtorEq,Nat.reduceLT,Nat.reduceLeDiff,Nat.reduceEqDiff,Nat.reduceSub,Nat.reduceMul,frz1,frzR,eq_self,and_self,tys,  spV_at,h0,h1,Tryz.results48]
def eJ (l:List T):List AV:=[.ro ((l.map bt).map eS),.sc (.string ⟨#[32]⟩)]
theorem eJ_inj (x y:List T) (h:eJ x=eJ y):x=y:=by
 unfold eJ at h
 simp only[List.cons.injEq,AV.ro.injEq,and_true] at h
 have h:=(List.map_inj_right (fun a b hab=>eS_inj hab)).1 h
 exact(List.map_inj_right (fun a b hab=>bt_inj hab)).1 h
theorem join_con (l:List T) (hl:l.length≤1000000) (hj:(join l [32]).length≤1000000000) (w:World):ConAt Tryz.prog w 50 (eJ l) (.sc (.string (bt (join l [32])))) []:=by
 refine con_flat fun S vs hS hlen hv=> ?_
 match vs,hlen with
 |[u,s],_=>
  have h1:=hv 0 _ u rfl rfl
  have h2:=(hv 1 _ s rfl rfl).sc_inv
  subst h2
  cases l with
  |nil=>
   cases h1 with
   |ro _ sz hz cs u hrd hl hw hc=>
    obtain⟨A,cap,rfl, -⟩:=hrd
    have:cs=[]:=List.length_eq_zero_iff.1 (by simpa using hl.symm)
    subst this
    exact(Tryz.strings_Join_none A cap _ w).mono fun e w' ⟨he,hw⟩=>⟨he,hw ▸ Fr.refl _ _⟩
  |cons x l=>
   obtain⟨g,o,c,rfl, -⟩:=ro_elem h1 (q:=0) (by simp)
   have hmap:(((x::l).map bt).map (·.data.toList))=x::l:=by
    rw[List.map_map]
    have:((fun s:ByteArray=>s.data.toList)∘bt)=id:=funext fun t=>list_bt t
    rw[this,List.map_id]
   have hcells:∀(j:Nat) y,((x::l).map bt)[j]? =some y→w.cell? ⟨g,o+j,none⟩=some (.string y):=fun j y hy=>by
    have hj:j<(((x::l).map bt).map eS).length:=by rw[List.length_map];exact(List.getElem?_eq_some_iff.1 hy).1
    obtain⟨g',o',c',hv',hrp⟩:=ro_elem h1 hj
    simp only[Value.slice.injEq,Option.some.injEq,Addr.mk.injEq,true_and,and_true] at hv'
    obtain⟨⟨rfl,rfl⟩, -⟩:=hv'
    rw[at_some hy] at hrp
    cases hrp with
    |rp _ _ _ vs hS hcell hl h1 hvv=>
     match vs,hl with
     |[v],_=>
      have:=(hvv 0 _ v rfl rfl).sc_inv
      subst this
      have:=hcell 0 _ rfl
      simpa [eS] using this
   have hlt:g<w.heap.size:=by
    have:=hcells 0 (bt x) rfl
    exact World.block_lt_of_cell? w _ this
   have hcap:((x::l).map bt).length≤c:=by
    cases h1 with
    |ro _ sz hz cs u hrd hl hw hc=>
     obtain⟨A,cap,hvv,hle, -⟩:=hrd
     simp only[Value.slice.injEq] at hvv
     rw[List.length_map] at hl
     omega
   have hlen2:(((x::l).map bt).map eS).length=((x::l).map bt).length:=by rw[List.length_map]
   rw[hlen2]
   have:=Tryz.strings_Join g o c ((x::l).map bt) ⟨#[32]⟩ w hcells hlt (by rw[List.length_map];omega) hcap (by rw[hmap];show (join (x::l) [32]).length≤_;omega)
   rw[hmap] at this
   exact this.mono fun e w' ⟨he,hb⟩=>⟨he,Fr.of_below hb (fun k h1 h2=>absurd h1 (by omega))⟩
end Go.Proofs.YtpjodoipceddpaaGreatDoor.Aw
namespace Go.Proofs.YtpjodoipceddpaaGreatDoor.Aw
open Go.RowKit Go.Lib Rc
set_option maxHeartbeats 8000000
set_option maxRecDepth 100000
def eSS (x:ByteArray×ByteArray):List AV:=[.sc (.string x.1),.sc (.string x.2)]
theorem eSS_inj (x y:ByteArray×ByteArray) (h:eSS x=eSS y):x=y:=by
 unfold eSS at h
 simp only[List.cons.injEq,AV.sc.injEq,Value.string.injEq,and_true] at h
 exact Prod.ext h.1 h.2
def rnF (b:Bool):FuncId:=if b then 89 else 86
def rnP (b:Bool):UInt8→Bool:=if b then isLD else isD
def eRn (x:ByteArray×Bool):List AV:=[.sc (.string x.1),.sc (.func (.func (rnF x.2)) #[] #[])]
theorem eRn_inj (x y:ByteArray×Bool) (h:eRn x=eRn y):x=y:=by
 unfold eRn at h
 simp only[List.cons.injEq,AV.sc.injEq,Value.string.injEq,Value.func.injEq,Fn.func.injEq,and_true] at h
 refine Prod.ext h.1 ?_
 have h2:=h.2
 unfold rnF at h2
 revert h2
 cases x.2<;>cases y.2<;>simp
noncomputable def spZ :Spec:=((spL.tell 85 (byE eSS (fun _=>True) (fun x=>.sc (.bool (hasPrefix x.1.data.toList x.2.data.toList))))).tell
 90 (byE eSS (fun x=>x.1.size<4294967281) (fun x=>.sc (.bool (contains x.1.data.toList x.2.data.toList))))).tell
 87 (byE eRn (fun x=>x.1.size≤9223372036854775807) (fun x=>.sc (.int .i64 (runM (rnP x.2) x.1.data.toList:Nat))))
theorem spZ_digit {b:UInt8}:spZ.call 86 [.sc (.int .u8 (b.toNat:Int))]=some (True,.sc (.bool (isD b)),[]):=by
 unfold spZ
 rw[tell_ne (by rfl),tell_ne (by rfl),tell_ne (by rfl)]
 exact spL_digit
theorem spZ_letter {b:UInt8}:spZ.call 88 [.sc (.int .u8 (b.toNat:Int))]=some (True,.sc (.bool (isL b)),[]):=by
 unfold spZ
 rw[tell_ne (by rfl),tell_ne (by rfl),tell_ne (by rfl)]
 exact spL_letter
theorem spZ_prefix {s:ByteArray}:spZ.call 85 [.sc (.string s),.sc (.string ⟨#[45,45]⟩)]=some (True,.sc (.bool ([45,45].isPrefixOf s.data.toList)),[]):=by
 unfold spZ
 rw[tell_ne (by rfl),tell_ne (by rfl),tell_same]
 exact byE_eq eSS_inj (s,⟨#[45,45]⟩)
theorem spZ_contains {s:ByteArray}:spZ.call 90 [.sc (.string {data:=([32,97,110,100,32,100,105,118,32,101,108,115,101,32,101,109,105,116,32,101,110,100,105,102,32,102,97,108,115,101,32,105,102].append [32,105,109,112,108,105,101,115,32,109,111,100,32,110,111,116,32,111,114,32,116,104,101,110,32,116,114,117,101,32,120,111,114,32]).toArray}),.sc (.string s)]=
 some (True,.sc (.bool (contains (32::wtext kws) s.data.toList)),[]):=by
 unfold spZ
 rw[tell_ne (by rfl),tell_same]
 have:=byE_eq (pre:=fun x:ByteArray×ByteArray=>x.1.size<4294967281) (r:=fun x=>AV.sc (.bool (contains x.1.data.toList x.2.data.toList))) eSS_inj (bt (32::wtext kws),s)
 have h1:(bt (32::wtext kws)).size<4294967281:=by decide
 rw[eq_true h1] at this
 exact this
theorem spZ_run1 {s:ByteArray}:spZ.call 87 [.sc (.string s),.sc (.func (.func 89) #[] #[])]=some (s.size≤9223372036854775807,.sc (.int .i64 (runM isLD s.data.toList:Nat)),[]):=by
 unfold spZ
 rw[tell_same]
 exact byE_eq eRn_inj (s,true)
theorem spZ_run0 {s:ByteArray}:spZ.call 87 [.sc (.string s),.sc (.func (.func 86) #[] #[])]=some (s.size≤9223372036854775807,.sc (.int .i64 (runM isD s.data.toList:Nat)),[]):=by
 unfold spZ
 rw[tell_same]
 exact byE_eq eRn_inj (s,false)
theorem spZ_ok (w:World) (hst:TrSt w):SpecOk Tryz.prog spZ w (fun _=>False):=by
 refine tell_ok (tell_ok (tell_ok (spL_ok w) (enters_of' Tryz.func85 (by kernel_rfl)) (byE_ok fun x _ w' _=> ?_)) (enters_of' Tryz.func90 (by kernel_rfl)) (byE_ok fun x h w' hf=> ?_)) (enters_of' Tryz.func87 (by kernel_rfl)) (byE_ok fun x h w' _=> ?_)
 · exact con_sc (vl:=[.string x.1,.string x.2]) ((Tryz.strings_HasPrefix x.1 x.2 w').mono fun e w'' ⟨h1,h2⟩=>⟨h1,h2 ▸ Fr.refl _ _⟩)
 · obtain⟨m,hm⟩:=(hst.fr hf).ml
   exact con_sc (vl:=[.string x.1,.string x.2]) ((Tryz.strings_Contains x.1 x.2 m w' h hm).mono fun e w'' ⟨h1,h2⟩=>⟨h1,h2 ▸ Fr.refl _ _⟩)
 · obtain⟨s,b⟩:=x
   cases b
   · exact run_con 86 isD (enters_of' Tryz.func86 (by kernel_rfl)) (fun b w=>digit_con b w) s h w'
   · exact run_con 89 isLD (enters_of' Tryz.func89 (by kernel_rfl)) (fun b w=>first1_con b w) s h w'
theorem runM_le (p:UInt8→Bool) (t:T):runM p t≤t.length:=by
 unfold runM
 exact(List.takeWhile_sublist _).length_le
theorem extract0 (s:ByteArray) (n:Nat):s.extract 0 n=bt (s.data.toList.take n):=by
 rw[←extract_from_zero,bt_list]
theorem first_con (s:ByteArray) (hs:s.size≤1000000000) (hns:s.data.toList=[]∨[45,45].isPrefixOf s.data.toList=true∨∃c r,s.data.toList=c::r∧(isD c=true∨isL c=true)) (w:World) (hst:TrSt w):
 ConAt Tryz.prog w 66 (eS s) (.tup [.sc (.int .i64 ((firstM s.data.toList).1:Nat)),.sc (.int .u8 ((firstM s.data.toList).2:Nat))]) []:=by
 unfold eS
 refine con_of_aw (sp:=spZ) (Φ:=TrSt) [] (fun w h=>spZ_ok w h) (by kernel_rfl) Tryz.func66 rfl ?_ w hst
 intro hLen
 simp only[Tryz.ntmps66,List.length_cons,List.length_nil,Nat.reduceAdd,Nat.reduceSub,List.replicate_succ,List.replicate_zero,List.cons_append,List.nil_append]
 have hR:=Tryz.results66
 have hl:s.data.toList.length=s.size:=rfl
 have hE:=isEmpty_dec s
 have hz:Int.toNat 0=0:=rfl
 have hz2:(0:Int)≤0:=Int.le_refl 0
 have hss:s.size≤9223372036854775807:=by omega
 have e0:((0:Nat):Int)=0:=rfl
 have e1:((1:Nat):Int)=1:=rfl
 have e2:((2:Nat):Int)=2:=rfl
 have e3:((3:Nat):Int)=3:=rfl
 cases ht:s.data.toList with
 |nil=>
  have c1:decide (s.data.toList=[])=true:=decide_eq_true ht
  unfold firstM
  simp (maxSteps:=2000000) only[↓awA,awB,evA,envE,ofV,putE,listH,setRow,spl,oneP,guardB,frzA,mapO,allSc,closeA,shiftA,shiftR,flatA,flat0,scA,Row.len,fillW,rep,chunks,closed1,Value.oneCell',Nat.reduceAdd,reduceIte,reduceCtorEq,Nat.reduceLT,Nat.reduceLeDiff,Nat.reduceEqDiff,Nat.reduceSub,Nat.reduceMul,frz1,frzR,eq_self,and_self,tys,  hE,c1,e0,hR]
 |cons c r=>
  have c1:decide (s.data.toList=[])=false:=decide_eq_false (by rw[ht];simp)
  have hb:byteAt s 0=(c.toNat:Int):=byteAt_some (by rw[ht];rfl)
  have hpos:(0:Int)<s.size:=by rw[←hl,ht,List.length_cons];omega
  rw[←ht]
  cases hp:[45,45].isPrefixOf s.data.toList
  · have hx:isD c=true∨isL c=true:=by
     rcases hns with h|h|⟨c',r',h,h2⟩
     · rw[ht] at h;cases h
     · rw[hp] at h;cases h
     · rw[ht] at h;cases h;exact h2
    cases hd:isD c
    · have hL:isL c=true:=hx.resolve_left (by rw[hd];simp)
      have hf:firstM s.data.toList=(runM isLD s.data.toList,if contains (32::wtext kws) (32::(s.data.toList.take (runM isLD s.data.toList)++[32])) then 3 else 2):=by
       rw[ht] at hp⊢
       unfold firstM
       simp only
       rw[if_neg (by rw[hp];simp),if_neg (by rw[hd];simp),if_pos hL]
       rfl
      rw[hf]
      have hrl:=runM_le isLD s.data.toList
      obtain⟨n,hn⟩:∃n,n=runM isLD s.data.toList:=⟨_,rfl⟩
      have hsp:spZ.call 87 [.sc (.string s),.sc (.func (.func 89) #[] #[])]=some (s.size≤9223372036854775807,.sc (.int .i64 (n:Nat)),[]):=by rw[hn];exact spZ_run1
      rw[←hn] at hrl⊢
      have hns2:n≤s.size:=by omega
      have hx0:=extract0 s n
      have h32:(⟨#[32]⟩:ByteArray)=bt [32]:=rfl
      have app:∀x y:T,bt x++bt y=bt (x++y):=bt_app
      have s1:(bt [32]).size+(bt (s.data.toList.take n)).size≤9223372036854775807:=by
       show 1+(s.data.toList.take n).toArray.size≤_
       simp
       omega
      have s2:(bt (32::s.data.toList.take n)).size+(bt [32]).size≤9223372036854775807:=by
       show (32::s.data.toList.take n).toArray.size+1≤_
       simp
       omega
      have hcn:= @spZ_contains (bt (32::(s.data.toList.take n++[32])))
      rw[list_bt] at hcn
      have h00:(((0:Nat):Int)≤(n:Int))=True:=eq_true (by omega)
      cases hk:contains (32::wtext kws) (32::(s.data.toList.take n++[32]))
      · rw[hk] at hcn
        simp (maxSteps:=2000000) only[↓awA,awB,evA,envE,ofV,putE,listH,setRow,spl,oneP,guardB,frzA,mapO,allSc,closeA,shiftA,shiftR,flatA,flat0,scA,Row.len,fillW,rep,chunks,closed1,Value.oneCell',Nat.reduceAdd,reduceIte,reduceCtorEq,Nat.reduceLT,Nat.reduceLeDiff,Nat.reduceEqDiff,Nat.reduceSub,Nat.reduceMul,frz1,frzR,eq_self,and_self,tys,  hE,c1,spZ_prefix,hp,hz,hz2,hpos,hb,spZ_digit,hd,spZ_letter,hL,hsp,hss,Option.map_none,h00,hns2,hx0,h32,app,s1,s2,hcn,e2,hR]
      · rw[hk] at hcn
        simp (maxSteps:=2000000) only[↓awA,awB,evA,envE,ofV,putE,listH,setRow,spl,oneP,guardB,frzA,mapO,allSc,closeA,shiftA,shiftR,flatA,flat0,scA,Row.len,fillW,rep,chunks,closed1,Value.oneCell',Nat.reduceAdd,reduceIte,reduceCtorEq,Nat.reduceLT,Nat.reduceLeDiff,Nat.reduceEqDiff,Nat.reduceSub,Nat.reduceMul,frz1,frzR,eq_self,and_self,tys,  hE,c1,spZ_prefix,hp,hz,hz2,hpos,hb,spZ_digit,hd,spZ_letter,hL,hsp,hss,Option.map_none,h00,hns2,hx0,h32,app,s1,s2,hcn,e3,hR]
    · have hf:firstM s.data.toList=(runM isD s.data.toList,1):=by
       rw[ht] at hp⊢
       unfold firstM
       simp only
       rw[if_neg (by rw[hp];simp),if_pos hd]
      rw[hf]
      simp (maxSteps:=2000000) only[↓awA,awB,evA,envE,ofV,putE,listH,setRow,spl,oneP,guardB,frzA,mapO,allSc,closeA,shiftA,shiftR,flatA,flat0,scA,Row.len,fillW,rep,chunks,closed1,Value.oneCell',Nat.reduceAdd,reduceIte,reduceCtorEq,Nat.reduceLT,Nat.reduceLeDiff,Nat.reduceEqDiff,Nat.reduceSub,Nat.reduceMul,frz1,frzR,eq_self,and_self,tys,  hE,c1,spZ_prefix,hp,hz,hz2,hpos,hb,spZ_digit,hd,spZ_run0,hss,e1,hR]
  · have hf:firstM s.data.toList=(0,0):=by
     rw[ht] at hp⊢
     unfold firstM
     simp only
     rw[if_pos hp]
    rw[hf]
    simp (maxSteps:=2000000) only[↓awA,awB,evA,envE,ofV,putE,listH,setRow,spl,oneP,guardB,frzA,mapO,allSc,closeA,shiftA,shiftR,flatA,flat0,scA,Row.len,fillW,rep,chunks,closed1,Value.oneCell',Nat.reduceAdd,reduceIte,reduceCtorEq,Nat.reduceLT,Nat.reduceLeDiff,Nat.reduceEqDiff,Nat.reduceSub,Nat.reduceMul,frz1,frzR,eq_self,and_self,tys,  hE,c1,spZ_prefix,hp,e0,hR]
end Go.Proofs.YtpjodoipceddpaaGreatDoor.Aw
