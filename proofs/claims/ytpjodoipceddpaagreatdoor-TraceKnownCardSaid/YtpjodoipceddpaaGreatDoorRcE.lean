/- Traces: the record that words say, to the program, walked abstractly. -/
import Derived.Test.YtpjodoipceddpaaGreatDoorRcCd
import Derived.Test.YtpjodoipceddpaaGreatDoorRecYm
namespace Go.Proofs.YtpjodoipceddpaaGreatDoor.Aw
open Go.RowKit Go.Lib Rc
set_option maxHeartbeats 8000000
set_option maxRecDepth 100000
theorem litS_injE {x y:List T} (h:([.ro (litS x)]:List AV)=[.ro (litS y)]):x=y:=by
 simp only[List.cons.injEq,AV.ro.injEq,and_true] at h
 unfold litS at h
 have h:=(List.map_inj_right (fun a b hab=>eS_inj hab)).1 h
 exact(List.map_inj_right (fun a b hab=>bt_inj hab)).1 h
def recV (op:Nat) (W:List T):RecM×Bool:=
 if op=8 then match W with
  |[]=>(⟨8,0,[],0,[]⟩,false)
  |k::l=>if kindOf k=2 then calledV l
   else if(readV l).2=true then(match (readV l).1 with
    |[a]=>(⟨8,a,[],0,[kindOf k]⟩,true)
    |_=>(⟨8,0,[],0,[kindOf k]⟩,false))
   else(⟨8,0,[],0,[kindOf k]⟩,false)
 else if(readV W).2=true then(if op=9∨op=12 then(⟨op,0,[],0,(readV W).1⟩,true) else match (readV W).1 with
  |a::n=>(⟨op,a,[],0,n⟩,true)
  |[]=>(⟨op,0,[],0,[]⟩,decide (op=10∨op=11)))
 else(⟨op,0,[],0,[]⟩,false)
theorem recV_eq (op:Nat) (W:List T):recordM op W=if(recV op W).2=true then some (recV op W).1 else none:=by
 unfold recordM recV
 by_cases h8:op=8
 · rw[if_pos h8,if_pos h8]
   cases W with
   |nil=>rfl
   |cons k l=>
    simp only
    by_cases hk:kindOf k=2
    · rw[if_pos hk,if_pos hk]
      unfold calledV
      match l with
      |[]=>rfl
      |[a]=>rfl
      |[n,a]=>
       simp only
       by_cases ha:(ppM a).2=0
       · rw[if_pos ha,if_pos (decide_eq_true ha)]
       · rw[if_neg ha,if_neg (by rw[decide_eq_false ha];simp)]
      |a::b::c::r=>rfl
    · rw[if_neg hk,if_neg hk]
      unfold readV
      cases readM l with
      |none=>rfl
      |some m=>
       simp only
       match m with
       |[]=>rfl
       |[a]=>rfl
       |a::b::r=>rfl
 · rw[if_neg h8,if_neg h8]
   unfold readV
   cases readM W with
   |none=>rfl
   |some m=>
    simp only
    by_cases h9:op=9∨op=12
    · rw[if_pos h9]
      simp[h9]
    · rw[if_neg h9]
      match m with
      |[]=>
       simp only[if_neg h9]
       by_cases h10:op=10∨op=11
       · simp[h10]
       · simp[h10]
      |a::r=>simp[h9]
theorem litS_wide (L:List T):∀e∈litS L,e.length=1:=fun e he=>by
 unfold litS at he
 obtain⟨x, -,rfl⟩:=List.mem_map.1 he
 rfl
theorem wide1E (l:List Int):(∀e∈l.map eI,e.length=1)=True:=eq_true (fun e he=>by
 obtain⟨n, -,rfl⟩:=List.mem_map.1 he
 rfl)
def kindsL :List T:=[kindW 1,kindW 2,kindW 3]
theorem idx_kind (k:T):idxOfS (kindsL.map bt) (bt k)+1=kindOf k:=by
 have hb:∀x:T,(bt x=bt k)↔k=x:=fun x=>⟨fun h=>(bt_inj h).symm,fun h=>by rw[h]⟩
 unfold kindOf kindsL idxOfS
 simp only[List.map_cons,List.map_nil,idxFromS]
 by_cases h1:k=kindW 1
 · rw[if_pos h1,if_pos ((hb _).2 h1)];rfl
 · rw[if_neg h1,if_neg (fun h=>h1 ((hb _).1 h))]
   by_cases h2:k=kindW 2
   · rw[if_pos h2,if_pos ((hb _).2 h2)];rfl
   · rw[if_neg h2,if_neg (fun h=>h2 ((hb _).1 h))]
     by_cases h3:k=kindW 3
     · rw[if_pos h3,if_pos ((hb _).2 h3)];rfl
     · rw[if_neg h3,if_neg (fun h=>h3 ((hb _).1 h))];rfl
theorem kindOf_le (k:T):0≤kindOf k∧kindOf k≤3:=by
 unfold kindOf
 split
 · decide
 · split
   · decide
   · split<;>decide
theorem ro_cells {S:Nat→Prop} {w:World} {x:T} {l:List T} {u:Value} (h1:VC S w (.ro (litS (x::l))) u):∃g o c,u=.slice (some ⟨g,o,none⟩) (l.length+1) c∧∀j y,((x::l).map bt)[j]? =some y→w.cell? ⟨g,o+j,none⟩=some (.string y):=by
 obtain⟨g,o,c,rfl, -⟩:=ro_elem h1 (q:=0) (by simp[litS])
 refine⟨g,o,c,by simp[litS],fun j y hy=> ?_⟩
 have hj:j<(litS (x::l)).length:=by unfold litS;rw[List.length_map];exact(List.getElem?_eq_some_iff.1 hy).1
 obtain⟨g',o',c',hv',hrp⟩:=ro_elem h1 hj
 simp only[Value.slice.injEq,Option.some.injEq,Addr.mk.injEq,true_and,and_true] at hv'
 obtain⟨⟨rfl,rfl⟩, -⟩:=hv'
 have:at_ (litS (x::l)) j=eS y:=at_some hy
 rw[this] at hrp
 cases hrp with
 |rp _ _ _ vs hS hcell hl h1 hvv=>
  match vs,hl with
  |[v],_=>
   have:=(hvv 0 _ v rfl rfl).sc_inv
   subst this
   have:=hcell 0 _ rfl
   simpa [eS] using this
theorem index_con (k:ByteArray) (w:World):ConAt Tryz.prog w 45 [.ro (litS kindsL),.sc (.string k)] (.sc (.int .i64 (idxOfS (kindsL.map bt) k))) []:=by
 refine con_flat fun S vs hS hlen hv=> ?_
 match vs,hlen with
 |[u,s],_=>
  have h2:=(hv 1 _ s rfl rfl).sc_inv
  subst h2
  obtain⟨g,o,c,rfl,hc⟩:=ro_cells (hv 0 _ u rfl rfl)
  refine(Tryz.slices_Index_string g o 3 c (kindsL.map bt) k w (by decide) (by decide) (fun j hj=> ?_)).mono fun e w' ⟨he,hw⟩=>⟨?_,hw ▸ Fr.refl _ _⟩
  · rw[hc j _ (List.getElem?_eq_getElem hj),List.getD_eq_getElem?_getD,List.getElem?_eq_getElem hj]
    rfl
  · rw[he]
    rfl
def eK (k:ByteArray):List AV:=[.ro (litS kindsL),.sc (.string k)]
theorem eK_inj (x y:ByteArray) (h:eK x=eK y):x=y:=by unfold eK at h;simpa using h
noncomputable def spRc :Spec:=((((spN.tell 44 (byE (fun _:Unit=>[]) (fun _=>True) (fun _=>kindsA))).tell
 45 (byE eK (fun _=>True) (fun k=>.sc (.int .i64 (idxOfS (kindsL.map bt) k))))).tell
 46 (byE (fun W:List T=>[.ro (litS W)]) Wds (fun W=>.tup [.agg (cR (calledV W).1),.sc (.bool (calledV W).2)]))).tell
 47 (byE (fun W:List T=>[.ro (litS W)]) Wds (fun W=>.tup [.ro ((readV W).1.map eI),.sc (.bool (readV W).2)]))).lits
theorem spRc_kinds :spRc.call 44 []=some (True,kindsA,[]):=by
 unfold spRc
 rw[lits_call,tell_ne (by rfl),tell_ne (by rfl),tell_ne (by rfl),tell_same]
 exact byE_eq (enc:=fun _:Unit=>[]) (fun x y _=>rfl) ()
theorem spRc_index {k:ByteArray}:spRc.call 45 [.ro (litS kindsL),.sc (.string k)]=some (True,.sc (.int .i64 (idxOfS (kindsL.map bt) k)),[]):=by
 unfold spRc
 rw[lits_call,tell_ne (by rfl),tell_ne (by rfl),tell_same]
 exact byE_eq eK_inj k
theorem spRc_indexK {k:T}:spRc.call 45 [.ro [[.sc (.string ⟨#[100,111,110,101]⟩)],[.sc (.string ⟨#[99,97,108,108]⟩)],[.sc (.string ⟨#[116,105,109,101]⟩)]],.sc (.string (bt k))]=some (True,.sc (.int .i64 (kindOf k - 1)),[]):=by
 have h:=spRc_index (k:=bt k)
 have e:idxOfS (kindsL.map bt) (bt k)=kindOf k - 1:=by rw[←idx_kind k];omega
 rw[e] at h
 exact h
theorem spRc_called {W:List T}:spRc.call 46 [.ro (litS W)]=some (Wds W,.tup [.agg (cR (calledV W).1),.sc (.bool (calledV W).2)],[]):=by
 unfold spRc
 rw[lits_call,tell_ne (by rfl),tell_same]
 exact byE_eq (fun _ _=>litS_injE) W
theorem spRc_read {W:List T}:spRc.call 47 [.ro (litS W)]=some (Wds W,.tup [.ro ((readV W).1.map eI),.sc (.bool (readV W).2)],[]):=by
 unfold spRc
 rw[lits_call,tell_same]
 exact byE_eq (fun _ _=>litS_injE) W
theorem spRc_ok (w:World) (hst:TrS w):SpecOk Tryz.prog spRc w (fun _=>False):=
 lits_ok<|tell_ok (tell_ok (tell_ok (tell_ok (spN_ok w) (enters_of' Tryz.func44 (by kernel_rfl)) (byE_ok fun a _ w' _=>kinds_con w')) (enters_of' Tryz.func45 (by kernel_rfl)) (byE_ok fun k _ w' _=>index_con k w'))
  (enters_of' Tryz.func46 (by kernel_rfl)) (byE_ok fun W h w' hf=>called_con W h w' (hst.fr hf))) (enters_of' Tryz.func47 (by kernel_rfl)) (byE_ok fun W h w' hf=>read_con W h w' (hst.fr hf))
theorem spRc_lit :(spRc.lit=true)=True:=eq_true rfl
theorem record_con (op:Nat) (W:List T) (hW:Wds W) (h3:3≤op) (h13:op≤13) (w:World) (hst:TrS w):ConAt Tryz.prog w 23 [.sc (.int .u8 (op:Int)),.ro (litS W)] (.tup [.agg (cR (recV op W).1),.sc (.bool (recV op W).2)]) []:=by
 unfold cR
 refine con_of_aw (sp:=spRc) (Φ:=TrS) [(9,[(5,[3])])] (fun w h=>spRc_ok w h) (by kernel_rfl) Tryz.func23 rfl ?_ w hst
 intro hLen
 simp only[Tryz.ntmps23,List.length_cons,List.length_nil,Nat.reduceAdd,Nat.reduceSub,List.replicate_succ,List.replicate_zero,List.cons_append,List.nil_append]
 have hR:=Tryz.results23
 have hll:=litS_len W
 have hz:Int.toNat 0=0:=rfl
 have hz2:(0:Int)≤0:=Int.le_refl 0
 have c8:((op:Int)==8)=decide (op=8):=by rw[Bool.eq_iff_iff,beq_iff_eq,decide_eq_true_eq];omega
 by_cases h8:op=8
 · subst h8
   have c8:(((8:Nat):Int)==8)=true:=rfl
   have w1:Int.toNat 1=1:=rfl
   have w2:((0:Int)≤1)=True:=eq_true (by decide)
   have w3:((1:Int)≤((4:Nat):Int))=True:=eq_true (by decide)
   have w4:((1:Int)<((4:Nat):Int))=True:=eq_true (by decide)
   cases W with
   |nil=>
    have hv:recV 8 []=(⟨8,0,[],0,[]⟩,false):=rfl
    have hln:(litS []).length=0:=rfl
    rw[hv]
    have h00:(((0:Nat):Int)==0)=true:=rfl
    simp (maxSteps:=2000000) only[↓awA,awB,evA,envE,ofV,putE,listH,setRow,spl,oneP,guardB,frzA,mapO,allSc,closeA,shiftA,shiftR,flatA,flat0,scA,Row.len,fillW,rep,chunks,closed1,Value.oneCell',Nat.reduceAdd,reduceIte,reduceCtorEq,Nat.reduceLT,Nat.reduceLeDiff,Nat.reduceEqDiff,Nat.reduceSub,Nat.reduceMul,frz1,frzR,eq_self,and_self,tys,  hR,hln,c8,h00]
    rfl
   |cons k l=>
    have hn0:(((litS (k::l)).length:Int)==0)=false:=by rw[hll,beq_eq_false_iff_ne,List.length_cons];omega
    have hpos:(0:Int)<(litS (k::l)).length:=by rw[hll,List.length_cons];omega
    have e0:at_ (litS (k::l)) 0=[.sc (.string (bt k))]:=rfl
    have hkl:=kindOf_le k
    have hw:IntKind.i64.wrap (kindOf k - 1+1)=kindOf k:=by rw[IntWalk.i64_in _ (by omega)];omega
    have hsl:List.drop 1 (List.take (litS (k::l)).length (litS (k::l)))=litS l:=by rw[List.take_length];rfl
    have h1l:((1:Int)≤(litS (k::l)).length)=True:=eq_true (by rw[hll,List.length_cons];omega)
    have hwd:(∀e∈litS (k::l),e.length=1)=True:=eq_true (litS_wide _)
    have hWl:Wds l:=⟨by have:=hW.1;rw[List.length_cons] at this;omega,fun x hx=>hW.2 x (List.mem_cons_of_mem _ hx)⟩
    unfold recV
    rw[if_pos rfl]
    simp only
    cases hk2:(kindOf k==2)
    · have hk2':¬kindOf k=2:=beq_eq_false_iff_ne.1 hk2
      rw[if_neg hk2']
      have hrd:=spRc_read (W:=l)
      obtain⟨V,hV⟩:∃V,V=readV l:=⟨_,rfl⟩
      rw[←hV] at hrd⊢
      clear hV
      obtain⟨m,b⟩:=V
      simp only at hrd⊢
      cases b
      · simp only[Bool.false_eq_true,if_false]
        simp (maxSteps:=2000000) only[↓awA,awB,evA,envE,ofV,putE,listH,setRow,spl,oneP,guardB,frzA,mapO,allSc,closeA,shiftA,shiftR,flatA,flat0,scA,Row.len,fillW,rep,chunks,closed1,Value.oneCell',Nat.reduceAdd,reduceIte,reduceCtorEq,Nat.reduceLT,Nat.reduceLeDiff,Nat.reduceEqDiff,Nat.reduceSub,Nat.reduceMul,frz1,frzR,eq_self,and_self,tys,  hR,hn0,c8,spRc_kinds,kindsA,hpos,e0,hz,hz2,Option.map_none,viewA,w1,w2,w3,w4,Nat.reduceAdd,spRc_indexK,hw,hk2,hsl,h1l,hwd,spRc_lit,hrd,hWl]
        exact⟨Dr_of (by kernel_rfl),Dr_of (by kernel_rfl),rfl⟩
      · rw[if_pos rfl]
        have hm1:(((m.map eI).length:Int) !=1)= !decide (m.length=1):=by
         rw[List.length_map,Bool.eq_iff_iff,bne_iff_ne,Bool.not_eq_true',decide_eq_false_iff_not]
         omega
        have hm2:((m.length:Int) !=1)= !decide (m.length=1):=by rw[←hm1,List.length_map]
        cases hm:decide (m.length=1)
        · have hmn:=of_decide_eq_false hm
          have hv:(match m with
           |[a]=>((⟨8,a,[],0,[kindOf k]⟩:RecM),true)
           |_=>(⟨8,0,[],0,[kindOf k]⟩,false))=(⟨8,0,[],0,[kindOf k]⟩,false):=by
           match m,hmn with
           |[],_=>rfl
           |[a],h=>exact absurd rfl h
           |a::b::r,_=>rfl
          rw[hv]
          simp (maxSteps:=2000000) only[↓awA,awB,evA,envE,ofV,putE,listH,setRow,spl,oneP,guardB,frzA,mapO,allSc,closeA,shiftA,shiftR,flatA,flat0,scA,Row.len,fillW,rep,chunks,closed1,Value.oneCell',Nat.reduceAdd,reduceIte,reduceCtorEq,Nat.reduceLT,Nat.reduceLeDiff,Nat.reduceEqDiff,Nat.reduceSub,Nat.reduceMul,frz1,frzR,eq_self,and_self,tys,  hR,hn0,c8,spRc_kinds,kindsA,hpos,e0,hz,hz2,Option.map_none,viewA,w1,w2,w3,w4,Nat.reduceAdd,spRc_indexK,hw,hk2,hsl,h1l,hwd,spRc_lit,hrd,hWl,hm2,hm]
          exact⟨Dr_of (by kernel_rfl),Dr_of (by kernel_rfl),rfl⟩
        · obtain⟨a,rfl⟩:=List.length_eq_one_iff.1 (of_decide_eq_true hm)
          have h11:(((1:Nat):Int) !=1)=false:=rfl
          have h01:((0:Int)<((1:Nat):Int))=True:=eq_true (by decide)
          have ea:at_ [[AV.sc (.int .i64 a)]] 0=[.sc (.int .i64 a)]:=rfl
          have hln1:([a]:List Int).length=1:=rfl
          simp (maxSteps:=2000000) only[↓awA,awB,evA,envE,ofV,putE,listH,setRow,spl,oneP,guardB,frzA,mapO,allSc,closeA,shiftA,shiftR,flatA,flat0,scA,Row.len,fillW,rep,chunks,closed1,Value.oneCell',Nat.reduceAdd,reduceIte,reduceCtorEq,Nat.reduceLT,Nat.reduceLeDiff,Nat.reduceEqDiff,Nat.reduceSub,Nat.reduceMul,frz1,frzR,eq_self,and_self,tys,  hR,hn0,c8,spRc_kinds,kindsA,hpos,e0,hz,hz2,Option.map_none,viewA,w1,w2,w3,w4,Nat.reduceAdd,spRc_indexK,hw,hk2,hsl,h1l,hwd,spRc_lit,hrd,hWl,h11,h01,ea,eI]
          exact⟨Dr_of (by kernel_rfl),Dr_of (by kernel_rfl),rfl⟩
    · have hk2':kindOf k=2:=beq_iff_eq.1 hk2
      rw[if_pos hk2']
      simp (maxSteps:=2000000) only[↓awA,awB,evA,envE,ofV,putE,listH,setRow,spl,oneP,guardB,frzA,mapO,allSc,closeA,shiftA,shiftR,flatA,flat0,scA,Row.len,fillW,rep,chunks,closed1,Value.oneCell',Nat.reduceAdd,reduceIte,reduceCtorEq,Nat.reduceLT,Nat.reduceLeDiff,Nat.reduceEqDiff,Nat.reduceSub,Nat.reduceMul,frz1,frzR,eq_self,and_self,tys,  hR,hn0,c8,spRc_kinds,kindsA,hpos,e0,hz,hz2,Option.map_none,viewA,w1,w2,w3,w4,Nat.reduceAdd,spRc_indexK,hw,hk2,hsl,h1l,hwd,spRc_called,hWl,cR]
      exact Dr_of (by kernel_rfl)
 · have d8:decide (op=8)=false:=decide_eq_false h8
   have hrd:=spRc_read (W:=W)
   unfold recV
   rw[if_neg h8]
   obtain⟨V,hV⟩:∃V,V=readV W:=⟨_,rfl⟩
   have hml:V.2=true→V.1.length≤2000000:=fun h=>by
    rw[hV] at h⊢
    unfold readV at h⊢
    cases hm:readM W with
    |none=>rw[hm] at h;cases h
    |some l=>have:=readM_len _ _ hm;have:=hW.1;show l.length≤_;omega
   rw[←hV] at hrd⊢
   clear hV
   obtain⟨m,b⟩:=V
   simp only at hrd hml⊢
   cases b
   · simp only[Bool.false_eq_true,if_false]
     simp (maxSteps:=2000000) only[↓awA,awB,evA,envE,ofV,putE,listH,setRow,spl,oneP,guardB,frzA,mapO,allSc,closeA,shiftA,shiftR,flatA,flat0,scA,Row.len,fillW,rep,chunks,closed1,Value.oneCell',Nat.reduceAdd,reduceIte,reduceCtorEq,Nat.reduceLT,Nat.reduceLeDiff,Nat.reduceEqDiff,Nat.reduceSub,Nat.reduceMul,frz1,frzR,eq_self,and_self,tys,  hR,c8,d8,Bool.false_eq_true,hrd,hW,hz,hz2]
     rfl
   · rw[if_pos rfl]
     by_cases h9:op=9∨op=12
     · rw[if_pos h9]
       rcases h9 with rfl|rfl
       · have k1:(((9:Nat):Int)==9)=true:=rfl
         simp (maxSteps:=2000000) only[↓awA,awB,evA,envE,ofV,putE,listH,setRow,spl,oneP,guardB,frzA,mapO,allSc,closeA,shiftA,shiftR,flatA,flat0,scA,Row.len,fillW,rep,chunks,closed1,Value.oneCell',Nat.reduceAdd,reduceIte,reduceCtorEq,Nat.reduceLT,Nat.reduceLeDiff,Nat.reduceEqDiff,Nat.reduceSub,Nat.reduceMul,frz1,frzR,eq_self,and_self,tys,  hR,c8,d8,Bool.false_eq_true,hrd,hW,hz,hz2,k1]
         rfl
       · have k1:(((12:Nat):Int)==9)=false:=rfl
         have k2:(((12:Nat):Int)==12)=true:=rfl
         simp (maxSteps:=2000000) only[↓awA,awB,evA,envE,ofV,putE,listH,setRow,spl,oneP,guardB,frzA,mapO,allSc,closeA,shiftA,shiftR,flatA,flat0,scA,Row.len,fillW,rep,chunks,closed1,Value.oneCell',Nat.reduceAdd,reduceIte,reduceCtorEq,Nat.reduceLT,Nat.reduceLeDiff,Nat.reduceEqDiff,Nat.reduceSub,Nat.reduceMul,frz1,frzR,eq_self,and_self,tys,  hR,c8,d8,Bool.false_eq_true,hrd,hW,hz,hz2,k1,k2]
         rfl
     · rw[if_neg h9]
       have k1:((op:Int)==9)=false:=by rw[beq_eq_false_iff_ne];omega
       have k2:((op:Int)==12)=false:=by rw[beq_eq_false_iff_ne];omega
       match m,hml with
       |[],_=>
        have k0:decide (((0:Nat):Int)>0)=false:=rfl
        have k3:((op:Int) !=10)= !decide (op=10):=by rw[Bool.eq_iff_iff,bne_iff_ne,Bool.not_eq_true',decide_eq_false_iff_not];omega
        have k4:((op:Int) !=11)= !decide (op=11):=by rw[Bool.eq_iff_iff,bne_iff_ne,Bool.not_eq_true',decide_eq_false_iff_not];omega
        cases q3:decide (op=10)
        · cases q4:decide (op=11)
          · have q5:decide (op=10∨op=11)=false:=decide_eq_false (fun h=>h.elim (of_decide_eq_false q3) (of_decide_eq_false q4))
            simp only[q5]
            simp (maxSteps:=2000000) only[↓awA,awB,evA,envE,ofV,putE,listH,setRow,spl,oneP,guardB,frzA,mapO,allSc,closeA,shiftA,shiftR,flatA,flat0,scA,Row.len,fillW,rep,chunks,closed1,Value.oneCell',Nat.reduceAdd,reduceIte,reduceCtorEq,Nat.reduceLT,Nat.reduceLeDiff,Nat.reduceEqDiff,Nat.reduceSub,Nat.reduceMul,frz1,frzR,eq_self,and_self,tys,  hR,c8,d8,Bool.false_eq_true,hrd,hW,hz,hz2,k1,k2,k0,k3,k4,q3,q4]
            rfl
          · have q5:decide (op=10∨op=11)=true:=decide_eq_true (.inr (of_decide_eq_true q4))
            simp only[q5]
            simp (maxSteps:=2000000) only[↓awA,awB,evA,envE,ofV,putE,listH,setRow,spl,oneP,guardB,frzA,mapO,allSc,closeA,shiftA,shiftR,flatA,flat0,scA,Row.len,fillW,rep,chunks,closed1,Value.oneCell',Nat.reduceAdd,reduceIte,reduceCtorEq,Nat.reduceLT,Nat.reduceLeDiff,Nat.reduceEqDiff,Nat.reduceSub,Nat.reduceMul,frz1,frzR,eq_self,and_self,tys,  hR,c8,d8,Bool.false_eq_true,hrd,hW,hz,hz2,k1,k2,k0,k3,k4,q3,q4]
            rfl
        · have q5:decide (op=10∨op=11)=true:=decide_eq_true (.inl (of_decide_eq_true q3))
          simp only[q5]
          simp (maxSteps:=2000000) only[↓awA,awB,evA,envE,ofV,putE,listH,setRow,spl,oneP,guardB,frzA,mapO,allSc,closeA,shiftA,shiftR,flatA,flat0,scA,Row.len,fillW,rep,chunks,closed1,Value.oneCell',Nat.reduceAdd,reduceIte,reduceCtorEq,Nat.reduceLT,Nat.reduceLeDiff,Nat.reduceEqDiff,Nat.reduceSub,Nat.reduceMul,frz1,frzR,eq_self,and_self,tys,  hR,c8,d8,Bool.false_eq_true,hrd,hW,hz,hz2,k1,k2,k0,k3,k4,q3]
          rfl
       |a::n,hml=>
        have hml:=hml rfl
        have k0:decide ((((a::n).length:Nat):Int)>0)=true:=decide_eq_true (by rw[List.length_cons];omega)
        have k5:((0:Int)<(((n.length+1:Nat)):Int))=True:=eq_true (by omega)
        have k6:((1:Int)≤(((n.length+1:Nat)):Int))=True:=eq_true (by omega)
        have k7:decide ((((n.length+1:Nat)):Int)>0)=true:=decide_eq_true (by omega)
        have k8:((0:Int)≤1)=True:=eq_true (by decide)
        have w1:Int.toNat 1=1:=rfl
        have ea:at_ ([.sc (.int .i64 a)]::n.map eI) 0=[.sc (.int .i64 a)]:=rfl
        have hwd:=wide1E n
        have htk:List.take (n.map eI).length (n.map eI)=n.map eI:=List.take_length
        have hn8:n.length*8≤140737488355328:=by rw[List.length_cons] at hml;omega
        have htk2:List.take n.length (n.map eI)=n.map eI:=by rw[←List.length_map (f:=eI),List.take_length]
        have hsl:List.drop 1 (List.take (n.length+1) ([AV.sc (.int .i64 a)]::n.map eI))=n.map eI:=by
         rw[List.take_succ_cons,htk2]
         rfl
        simp (maxSteps:=2000000) only[↓awA,awB,evA,envE,ofV,putE,listH,setRow,spl,oneP,guardB,frzA,mapO,allSc,closeA,shiftA,shiftR,flatA,flat0,scA,Row.len,fillW,rep,chunks,closed1,Value.oneCell',Nat.reduceAdd,reduceIte,reduceCtorEq,Nat.reduceLT,Nat.reduceLeDiff,Nat.reduceEqDiff,Nat.reduceSub,Nat.reduceMul,frz1,frzR,eq_self,and_self,tys,  hR,c8,d8,Bool.false_eq_true,hrd,hW,hz,hz2,k1,k2,k0,k5,k6,k7,k8,w1,ea,eI,Option.map_none,hwd,htk2,hn8]
        exact⟨Dr_of (by kernel_rfl),rfl⟩
end Go.Proofs.YtpjodoipceddpaaGreatDoor.Aw
