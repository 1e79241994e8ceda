/- Traces: what the program gets of a text, walked abstractly. -/
import Derived.Test.YtpjodoipceddpaaGreatDoorRcE
import Derived.Test.YtpjodoipceddpaaGreatDoorRcF
import Derived.Test.YtpjodoipceddpaaGreatDoorRecO
import Derived.Test.YtpjodoipceddpaaGreatDoorRecYm
import Derived.Test.YtpjodoipceddpaaGreatDoorRcI
namespace Go.Proofs.YtpjodoipceddpaaGreatDoor.Aw
open Go.RowKit Go.Lib Rc
set_option maxHeartbeats 8000000
set_option maxRecDepth 100000
theorem unfz_new {w:World} {arr:Array Value} {e:TypeId}:Unfz (w.alloc (.cells arr e)) w.heap.size:=fun a e' fz h=>by
 rw[heap_alloc_new] at h
 cases h
 rfl
theorem fr_drewN (w:World) (k:Nat):Fr (fun _=>False) w (w.drewN k):=⟨rfl,rfl,rfl,Nat.le_refl _,fun i hi _=>rfl⟩
theorem split_bs (s:ByteArray):splitB ⟨#[32]⟩ 0 (countB s ⟨#[32]⟩) s=(pieces s.data.toList).map bt:=by
 have h1:=splitB_data ⟨#[32]⟩ 0 (countB s ⟨#[32]⟩) s
 have h2:=split_pieces s.data.toList
 unfold split at h2
 have h3:(splitB ⟨#[32]⟩ 0 (countB s ⟨#[32]⟩) s).map (·.data.toList)=pieces s.data.toList:=by
  rw[h1,←h2]
  try rfl
 rw[←h3,List.map_map]
 have:(bt∘fun x:ByteArray=>x.data.toList)=id:=funext fun x=>bt_list x
 rw[this,List.map_id]
theorem pieces_count :∀s:T,(pieces s).length=count s [32]+1
 |[]=>by rw[count_miss (index_nil 32)];rfl
 |b::s=>by
  have ih:=pieces_count s
  rw[pieces]
  by_cases hb:b=32
  · subst hb
    rw[if_pos rfl,count_cons_eq,List.length_cons,ih]
    omega
  · rw[if_neg hb,count_cons_ne b 32 s hb,←ih]
    split
    · rename_i h
      exact absurd h (pieces_ne s)
    · rename_i x l h
      rw[h]
      rfl
theorem split_con (s:ByteArray) (hs:s.size≤1000000) (w:World) (hst:TrSt w):ConAt Tryz.prog w 22 [.sc (.string s),.sc (.string ⟨#[32]⟩)] (.ro (litS (pieces s.data.toList))) []:=by
 obtain⟨m,hm⟩:=hst.ml
 refine con_new fun S vs hS hlen hv=> ?_
 match vs,hlen with
 |[u,v],_=>
  have h1:=(hv 0 _ u rfl rfl).sc_inv
  have h2:=(hv 1 _ v rfl rfl).sc_inv
  subst h1 h2
  refine(Tryz.strings_Split s ⟨#[32]⟩ m w (by omega) hm (by decide)).mono fun e w' ⟨he,hw⟩=> ?_
  have hl:(splitB ⟨#[32]⟩ 0 (countB s ⟨#[32]⟩) s).length=countB s ⟨#[32]⟩+1:=by
   rw[split_bs,List.length_map]
   exact pieces_count s.data.toList
  have hle:countB s ⟨#[32]⟩≤s.size:=countB_le ⟨#[32]⟩ (by decide) s.size s (Nat.le_refl _)
  rw[split_bs] at hw hl
  refine⟨_,fun k=>k=w.heap.size,he,fun k hk=> ?_, ?_, ?_⟩
  · subst hk
    rw[hw]
    exact⟨Nat.le_refl _,by simp,unfz_new⟩
  · rw[←hl]
    refine ro_strs (L:=(pieces s.data.toList).map bt) rfl (fun j x hx=> ?_) (Nat.le_refl _) (by simp only[maxLen];omega)
    rw[hw,cell_of_row _ _ _ _ _ _ (heap_alloc_new w _),Nat.zero_add,List.getElem?_toArray,List.getElem?_map,hx]
    rfl
  · rw[hw]
    exact Fr.alloc (Fr.refl _ _) _
theorem cut_con (s:ByteArray) (hs:s.size≤1000000) (w:World) (hst:TrSt w):ConAt Tryz.prog w 21 [.sc (.string s),.sc (.string ⟨#[10]⟩)] (.tup [.sc (.string (bt (cut s.data.toList [10]).1)),.sc (.string (bt (cut s.data.toList [10]).2.1)),.sc (.bool (cut s.data.toList [10]).2.2)]) []:=by
 obtain⟨m,hm⟩:=hst.ml
 exact con_sct (vl:=[.string s,.string ⟨#[10]⟩]) (us:=[.string (bt (cut s.data.toList [10]).1),.string (bt (cut s.data.toList [10]).2.1),.bool (cut s.data.toList [10]).2.2])
  ((Tryz.strings_Cut s ⟨#[10]⟩ m w (by omega) hm).mono fun e w' ⟨he,k,hw⟩=>⟨he,by rw[hw];exact fr_drewN w k⟩)
theorem ops_con (w:World):ConAt Tryz.prog w 20 [] (.mp opsTab) []:=by
 refine con_new fun S vs hS hlen hv=> ?_
 match vs,hlen with
 |[],_=>
  refine(ops_any w).mono fun e w' ⟨b,he,hb,hm,hf⟩=>⟨_,fun k=>k=b,he,fun k hk=> ?_,.mp opsTab b rfl hm,hf⟩
  subst hk
  refine⟨hb,hm.lt,fun arr e fz h=> ?_⟩
  obtain⟨es,c,h1, -⟩:=hm
  rw[h1] at h
  cases h
def eC (s:ByteArray):List AV:=[.sc (.string s),.sc (.string ⟨#[10]⟩)]
theorem eC_inj (x y:ByteArray) (h:eC x=eC y):x=y:=by unfold eC at h;simpa using h
def eB32 (s:ByteArray):List AV:=[.sc (.string s),.sc (.string ⟨#[32]⟩)]
theorem eB32_inj (x y:ByteArray) (h:eB32 x=eB32 y):x=y:=by unfold eB32 at h;simpa using h
def eW (x:Nat×List T):List AV:=[.sc (.int .u8 (x.1:Int)),.ro (litS x.2)]
theorem eW_inj (x y:Nat×List T) (h:eW x=eW y):x=y:=by
 unfold eW at h
 simp only[List.cons.injEq,AV.sc.injEq,Value.int.injEq,true_and,AV.ro.injEq,and_true] at h
 refine Prod.ext (by omega) ?_
 have:=h.2
 unfold litS at this
 have:=(List.map_inj_right (fun a b hab=>eS_inj hab)).1 this
 exact(List.map_inj_right (fun a b hab=>bt_inj hab)).1 this
noncomputable def spGt :Spec:=(((((spN.tell 20 (byE (fun _:Unit=>[]) (fun _=>True) (fun _=>.mp opsTab))).tell
 21 (byE eC (fun s=>s.size≤1000000) (fun s=>.tup [.sc (.string (bt (cut s.data.toList [10]).1)),.sc (.string (bt (cut s.data.toList [10]).2.1)),.sc (.bool (cut s.data.toList [10]).2.2)]))).tell
 22 (byE eB32 (fun s=>s.size≤1000000) (fun s=>.ro (litS (pieces s.data.toList))))).tell
 23 (byE eW (fun x=>Wds x.2∧3≤x.1∧x.1≤13) (fun x=>.tup [.agg (cR (recV x.1 x.2).1),.sc (.bool (recV x.1 x.2).2)]))).tell
 12 (byE eR (fun r=>r.name.length≤1000000000) (fun r=>.sc (.bool (mayB nmB r))))).tell
 24 (byE eR (fun r=>mayB nmB r=true∧In64 r∧r.list.length≤1000∧r.name.length≤1000) (fun r=>.sc (.string (bt (textM r++[10])))))
theorem spGt_ops :spGt.call 20 []=some (True,.mp opsTab,[]):=by
 unfold spGt
 rw[tell_ne (by rfl),tell_ne (by rfl),tell_ne (by rfl),tell_ne (by rfl),tell_ne (by rfl),tell_same]
 exact byE_eq (enc:=fun _:Unit=>[]) (fun x y _=>rfl) ()
theorem spGt_cut {s:ByteArray}:spGt.call 21 [.sc (.string s),.sc (.string ⟨#[10]⟩)]=some (s.size≤1000000,.tup [.sc (.string (bt (cut s.data.toList [10]).1)),.sc (.string (bt (cut s.data.toList [10]).2.1)),.sc (.bool (cut s.data.toList [10]).2.2)],[]):=by
 unfold spGt
 rw[tell_ne (by rfl),tell_ne (by rfl),tell_ne (by rfl),tell_ne (by rfl),tell_same]
 exact byE_eq eC_inj s
theorem spGt_split {t:T}:spGt.call 22 [.sc (.string (bt t)),.sc (.string ⟨#[32]⟩)]=some ((bt t).size≤1000000,.ro (litS (pieces t)),[]):=by
 unfold spGt
 rw[tell_ne (by rfl),tell_ne (by rfl),tell_ne (by rfl),tell_same]
 have:=byE_eq (pre:=fun s:ByteArray=>s.size≤1000000) (r:=fun s=>AV.ro (litS (pieces s.data.toList))) eB32_inj (bt t)
 rw[list_bt] at this
 exact this
theorem spGt_record {o:Nat} {W:List T}:spGt.call 23 [.sc (.int .u8 (o:Int)),.ro (litS W)]=some ((Wds W∧3≤o∧o≤13),.tup [.agg (cR (recV o W).1),.sc (.bool (recV o W).2)],[]):=by
 unfold spGt
 rw[tell_ne (by rfl),tell_ne (by rfl),tell_same]
 exact byE_eq eW_inj (o,W)
theorem spGt_may {r:RecM}:spGt.call 12 [.agg [.sc (.int .u8 (r.op:Int)),.sc (.int .i64 r.at_),.sc (.string (bt r.name)),.sc (.int .i64 r.arg),.ro (r.list.map eI)]]=some (r.name.length≤1000000000,.sc (.bool (mayB nmB r)),[]):=by
 unfold spGt
 rw[tell_ne (by rfl),tell_same]
 exact byE_eq eR_inj r
theorem spGt_line {r:RecM}:spGt.call 24 [.agg [.sc (.int .u8 (r.op:Int)),.sc (.int .i64 r.at_),.sc (.string (bt r.name)),.sc (.int .i64 r.arg),.ro (r.list.map eI)]]=some ((mayB nmB r=true∧In64 r∧r.list.length≤1000∧r.name.length≤1000),.sc (.string (bt (textM r++[10]))),[]):=by
 unfold spGt
 rw[tell_same]
 exact byE_eq eR_inj r
theorem spGt_ok (w:World) (hst:TrS w):SpecOk Tryz.prog spGt w (fun _=>False):=
 tell_ok (tell_ok (tell_ok (tell_ok (tell_ok (tell_ok (spN_ok w) (enters_of' Tryz.func20 (by kernel_rfl)) (byE_ok fun _ _ w' _=>ops_con w')) (enters_of' Tryz.func21 (by kernel_rfl)) (byE_ok fun s h w' hf=>cut_con s h w' (hst.fr hf).1))
  (enters_of' Tryz.func22 (by kernel_rfl)) (byE_ok fun s h w' hf=>split_con s h w' (hst.fr hf).1)) (enters_of' Tryz.func23 (by kernel_rfl)) (byE_ok fun x h w' hf=>record_con x.1 x.2 h.1 h.2.1 h.2.2 w' (hst.fr hf)))
  (enters_of' Tryz.func12 (by kernel_rfl)) (byE_ok fun a h w' hf=>may_con a h w' (hst.fr hf).1)) (enters_of' Tryz.func24 (by kernel_rfl)) (byE_ok fun a h w' hf=>line_con a (may_of h.1) h.2.1 h.2.2.1 h.2.2.2 w' (hst.fr hf).1)
theorem spGt_lit :(spGt.lit=true)=False:=eq_false (fun h=>by cases h)
theorem rec_len {o:Nat} {l:List T} {b:Nat} (hl:l.length≤b) (hb:1≤b) (hs:∀x∈l,x.length≤b):(recV o l).1.list.length≤b∧(recV o l).1.name.length≤b:=by
 have hr:∀W:List T,W.length≤b→(readV W).1.length≤b:=fun W hW=>by
  unfold readV
  cases h:readM W with
  |none=>exact Nat.zero_le _
  |some m=>show m.length≤b;rw[readM_len _ _ h];exact hW
 unfold recV
 split
 · split
   · exact⟨Nat.zero_le _,Nat.zero_le _⟩
   · rename_i k l
     have hll:l.length≤b:=by rw[List.length_cons] at hl;omega
     split
     · unfold calledV
       split
       · rename_i n a
         exact⟨hb,hs n (by simp)⟩
       · exact⟨Nat.zero_le _,Nat.zero_le _⟩
     · split
       · split
         · exact⟨hb,Nat.zero_le _⟩
         · exact⟨hb,Nat.zero_le _⟩
       · exact⟨hb,Nat.zero_le _⟩
 · split
   · split
     · exact⟨hr l hl,Nat.zero_le _⟩
     · split
       · rename_i a n h
         have:=hr l hl
         rw[h,List.length_cons] at this
         exact⟨by show n.length≤b;omega,Nat.zero_le _⟩
       · exact⟨Nat.zero_le _,Nat.zero_le _⟩
   · exact⟨Nat.zero_le _,Nat.zero_le _⟩
theorem opOf_le {w:T} {o:Nat} (h:opOf w=some o):3≤o∧o≤13:=by
 unfold opOf at h
 have:=List.mem_of_find?_eq_some h
 obtain⟨i,hi,rfl⟩:=List.mem_map.1 this
 rw[List.mem_range] at hi
 omega
theorem pieces_len2 :∀t:T,(pieces t).length≤t.length+1∧∀x∈pieces t,x.length≤t.length
 |[]=>⟨by simp[pieces],by simp[pieces]⟩
 |c::s=>by
  obtain⟨h1,h2⟩:=pieces_len2 s
  rw[pieces]
  split
  · refine⟨by rw[List.length_cons,List.length_cons];omega,fun x hx=> ?_⟩
    rw[List.mem_cons] at hx
    rcases hx with rfl|hx
    · simp
    · have:=h2 x hx
      rw[List.length_cons]
      omega
  · split
    · refine⟨by simp,fun x hx=> ?_⟩
      rw[List.mem_singleton] at hx
      rw[hx]
      simp
    · rename_i y l hp
      rw[hp] at h1 h2
      refine⟨by rw[List.length_cons] at h1⊢;rw[List.length_cons];omega,fun x hx=> ?_⟩
      rw[List.mem_cons] at hx
      rcases hx with rfl|hx
      · have:=h2 y List.mem_cons_self
        rw[List.length_cons,List.length_cons]
        omega
      · have:=h2 x (List.mem_cons_of_mem _ hx)
        rw[List.length_cons]
        omega
theorem get_con (s:ByteArray) (hs:s.size≤900∨1048576<s.size) (w:World) (hst:TrS w):ConAt Tryz.prog w 7 (eS s) (.tup [.ro (cRl (getM (lineP nmB) s.data.toList).1),.sc (.int .i64 (getM (lineP nmB) s.data.toList).2.1),.sc (.int .i64 (getM (lineP nmB) s.data.toList).2.2)]) []:=by
 unfold eS
 refine con_of_aw (sp:=spGt) (Φ:=TrS) [] (fun w h=>spGt_ok w h) (by kernel_rfl) Tryz.func7 rfl ?_ w hst
 intro hLen
 simp only[Tryz.ntmps7,List.length_cons,List.length_nil,Nat.reduceAdd,Nat.reduceSub,List.replicate_succ,List.replicate_zero,List.cons_append,List.nil_append]
 have hR:=Tryz.results7
 have hl:s.data.toList.length=s.size:=rfl
 have hmz:mapZero Tryz.prog 51=some (.int .u8 0):=by kernel_rfl
 cases hb:decide ((s.size:Int)>1048576)
 · have hb2:=of_decide_eq_false hb
   have hsz:s.size≤900:=by omega
   have hg:getM (lineP nmB) s.data.toList=readAll (lineP nmB) (s.size+1) s.data.toList 0 []:=if_neg (by omega)
   rw[hg]
   obtain⟨R,hRR⟩:∃R,R=readAll (lineP nmB) (s.size+1) s.data.toList 0 []:=⟨_,rfl⟩
   rw[←hRR]
   simp (maxSteps:=2000000) only[↓awA,awB,evA,envE,ofV,putE,listH,setRow,spl,oneP,guardB,frzA,mapO,allSc,closeA,shiftA,shiftR,flatA,flat0,scA,Row.len,fillW,rep,chunks,closed1,Value.oneCell',Nat.reduceAdd,reduceIte,reduceCtorEq,Nat.reduceLT,Nat.reduceLeDiff,Nat.reduceEqDiff,Nat.reduceSub,Nat.reduceMul,frz1,frzR,eq_self,and_self,tys,  hR,hb,spGt_ops]
   refine aw_loop (fun x:Nat×List RecM×Nat=>[.sc (.string s),.dead,.sl 0 x.2.1.length,.sc (.int .i64 (x.1:Int)),.dead,.mp opsTab]++deads 75) (fun x=>[.lst 5 (cRl x.2.1) 34])
    (fun x=>x.1≤s.size∧x.2.1.length≤x.1∧s.size<x.1+x.2.2∧readAll (lineP nmB) x.2.2 (s.data.toList.drop x.1) x.1 x.2.1=R) (fun x=>s.size - x.1) (0,[],s.size+1) ?_ ⟨Nat.zero_le _,Nat.le_refl _,by simp,hRR.symm⟩ ?_ (fun _ _=>by rw[show spGt.pins=0 from rfl];trivial)
   · simp[Weak,weakL,weakR,weakV,nilV,nilR,okA,listH,deads,pinR,isVarB,pin_pins,  cRl]
   rintro⟨p,acc,f⟩ ⟨hp,hacc,hf,hrd⟩
   simp only at hp hacc hf hrd
   simp only[deads,List.replicate_succ,List.replicate_zero,List.cons_append,List.nil_append]
   obtain⟨f,rfl⟩:∃g,f=g+1:=⟨f - 1,by omega⟩
   rw[readAll] at hrd
   by_cases hlt:p<s.size
   · rw[if_neg (by intro h;have:=congrArg List.length h;rw[List.length_drop,hl] at this;simp at this;omega)] at hrd
     have hpl:(p:Int)≤s.size:=by omega
     have hex:s.extract p s.size=bt (s.data.toList.drop p):=by
      rw[←bt_list (s.extract p s.size),extract_data]
      congr 1
      rw[List.take_of_length_le (by rw[List.length_drop];omega)]
     have hcz:(bt (s.data.toList.drop p)).size≤1000000:=by rw[size_bt,List.length_drop];omega
     have hcut:=spGt_cut (s:=bt (s.data.toList.drop p))
     rw[list_bt] at hcut
     have hdl:(s.data.toList.drop p).length=s.size - p:=by rw[List.length_drop,hl]
     cases hc:cutL (s.data.toList.drop p) with
     |none=>
      rw[hc] at hrd
      simp only at hrd
      rw[(cut_none _ hc).1] at hcut
      simp only at hcut
      obtain⟨w0,ws,hw⟩:=List.exists_cons_of_ne_nil (pieces_ne (s.data.toList.drop p))
      have hspl:=spGt_split (t:=s.data.toList.drop p)
      rw[hw] at hspl
      have e0:at_ (litS (w0::ws)) 0=[.sc (.string (bt w0))]:=rfl
      have h0l:((0:Int)<(litS (w0::ws)).length)=True:=eq_true (by rw[litS_len,List.length_cons];omega)
      have hz:Int.toNat 0=0:=rfl
      have hz2:((0:Int)≤0)=True:=eq_true (Int.le_refl 0)
      have hlk:=ops_look w0
      rw[←hrd]
      cases ho:opOf w0 with
      |none=>
       rw[ho] at hlk
       simp only[Option.map_none] at hlk
       simp (maxSteps:=2000000) only[↓awA,awB,evA,envE,ofV,putE,listH,setRow,spl,oneP,guardB,frzA,mapO,allSc,closeA,shiftA,shiftR,flatA,flat0,scA,Row.len,fillW,rep,chunks,closed1,Value.oneCell',Nat.reduceAdd,reduceIte,reduceCtorEq,Nat.reduceLT,Nat.reduceLeDiff,Nat.reduceEqDiff,Nat.reduceSub,Nat.reduceMul,frz1,frzR,eq_self,and_self,tys,  hlt,hpl,hex,hcut,hcz,hspl,e0,h0l,hz,hz2,hmz,hlk,lookR,Option.map_none,hR]
       rfl
      |some o=>
       rw[ho] at hlk
       simp only[Option.map_some] at hlk
       simp (maxSteps:=2000000) only[↓awA,awB,evA,envE,ofV,putE,listH,setRow,spl,oneP,guardB,frzA,mapO,allSc,closeA,shiftA,shiftR,flatA,flat0,scA,Row.len,fillW,rep,chunks,closed1,Value.oneCell',Nat.reduceAdd,reduceIte,reduceCtorEq,Nat.reduceLT,Nat.reduceLeDiff,Nat.reduceEqDiff,Nat.reduceSub,Nat.reduceMul,frz1,frzR,eq_self,and_self,tys,  hlt,hpl,hex,hcut,hcz,hspl,e0,h0l,hz,hz2,hmz,hlk,lookR,Option.map_none,hR]
       rfl
     |some x=>
      obtain⟨t,r⟩:=x
      rw[hc] at hrd
      simp only at hrd
      rw[cut_some hc] at hcut
      simp only at hcut
      obtain⟨w0,ws,hw⟩:=List.exists_cons_of_ne_nil (pieces_ne t)
      have hspl:=spGt_split (t:=t)
      rw[hw] at hspl
      have hct:=cutL_len _ _ hc
      simp only at hct
      have htl:t.length+1+r.length=s.size - p:=by rw[←hct,hdl]
      have hpc:=pieces_len2 t
      rw[hw,List.length_cons] at hpc
      have hts:((bt t).size≤1000000)=True:=eq_true (by rw[size_bt];omega)
      have e0:at_ (litS (w0::ws)) 0=[.sc (.string (bt w0))]:=rfl
      have hll:=litS_len (w0::ws)
      have h0l:((0:Int)<(litS (w0::ws)).length)=True:=eq_true (by rw[hll,List.length_cons];omega)
      have hz:Int.toNat 0=0:=rfl
      have hz2:((0:Int)≤0)=True:=eq_true (Int.le_refl 0)
      have hlk:=ops_look w0
      have hlp:lineP nmB t=match opOf w0 with
       |none=>none
       |some op=>match recordM op ws with
        |none=>none
        |some r=>if mayB nmB r=true∧textM r=t then some r else none:=by
       unfold lineP
       rw[hw]
       rfl
      cases ho:opOf w0 with
      |none=>
       rw[ho] at hlk hlp
       simp only[Option.map_none] at hlk hlp
       rw[hlp] at hrd
       simp only at hrd
       rw[←hrd]
       simp (maxSteps:=2000000) only[↓awA,awB,evA,envE,ofV,putE,listH,setRow,spl,oneP,guardB,frzA,mapO,allSc,closeA,shiftA,shiftR,flatA,flat0,scA,Row.len,fillW,rep,chunks,closed1,Value.oneCell',Nat.reduceAdd,reduceIte,reduceCtorEq,Nat.reduceLT,Nat.reduceLeDiff,Nat.reduceEqDiff,Nat.reduceSub,Nat.reduceMul,frz1,frzR,eq_self,and_self,tys,  hlt,hpl,hex,hcut,hcz,hspl,e0,h0l,hz,hz2,hmz,hlk,lookR,Option.map_none,hR,hts]
       rfl
      |some o=>
       rw[ho] at hlk hlp
       simp only[Option.map_some] at hlk hlp
       have hoo:=opOf_le ho
       have hsl:List.drop 1 (List.take (litS (w0::ws)).length (litS (w0::ws)))=litS ws:=by rw[List.take_length];rfl
       have h1l:((1:Int)≤(litS (w0::ws)).length)=True:=eq_true (by rw[hll,List.length_cons];omega)
       have h01:((0:Int)≤1)=True:=eq_true (by decide)
       have hwd:(∀e∈litS (w0::ws),e.length=1)=True:=eq_true (litS_wide _)
       have w1:Int.toNat 1=1:=rfl
       have hrc:=spGt_record (o:=o) (W:=ws)
       have hpre:(Wds ws∧3≤o∧o≤13)=True:=eq_true ⟨⟨by omega,fun x hx=>by have:=hpc.2 x (List.mem_cons_of_mem _ hx);omega⟩,hoo⟩
       rw[hpre] at hrc
       have hrl:=rec_len (o:=o) (l:=ws) (b:=1000) (by omega) (by omega) (fun x hx=>by have:=hpc.2 x (List.mem_cons_of_mem _ hx);omega)
       have hre:=recV_eq o ws
       rw[hre] at hlp
       have hin:(recV o ws).2=true→In64 (recV o ws).1:=fun h=>record_in (o:=o) (l:=ws) (by rw[hre,if_pos h])
       obtain⟨V,hV⟩:∃V,V=recV o ws:=⟨_,rfl⟩
       rw[←hV] at hrc hrl hlp hin
       clear hV hre
       obtain⟨rr,b⟩:=V
       simp only at hrc hrl hlp hin
       cases b
       · rw[if_neg (by simp)] at hlp
         simp only at hlp
         rw[hlp] at hrd
         simp only at hrd
         rw[←hrd]
         simp (maxSteps:=2000000) only[↓awA,awB,evA,envE,ofV,putE,listH,setRow,spl,oneP,guardB,frzA,mapO,allSc,closeA,shiftA,shiftR,flatA,flat0,scA,Row.len,fillW,rep,chunks,closed1,Value.oneCell',Nat.reduceAdd,reduceIte,reduceCtorEq,Nat.reduceLT,Nat.reduceLeDiff,Nat.reduceEqDiff,Nat.reduceSub,Nat.reduceMul,frz1,frzR,eq_self,and_self,tys,  hlt,hpl,hex,hcut,hcz,hspl,e0,h0l,hz,hz2,hmz,hlk,lookR,Option.map_none,hR,hts,hsl,h1l,h01,hwd,w1,hrc,cR]
         rfl
       · rw[if_pos rfl] at hlp
         simp only at hlp
         have hin:=hin rfl
         have hmn:(rr.name.length≤1000000000)=True:=eq_true (by omega)
         cases hm:mayB nmB rr
         · rw[if_neg (by rw[hm];simp)] at hlp
           rw[hlp] at hrd
           simp only at hrd
           rw[←hrd]
           simp (maxSteps:=2000000) only[↓awA,awB,evA,envE,ofV,putE,listH,setRow,spl,oneP,guardB,frzA,mapO,allSc,closeA,shiftA,shiftR,flatA,flat0,scA,Row.len,fillW,rep,chunks,closed1,Value.oneCell',Nat.reduceAdd,reduceIte,reduceCtorEq,Nat.reduceLT,Nat.reduceLeDiff,Nat.reduceEqDiff,Nat.reduceSub,Nat.reduceMul,frz1,frzR,eq_self,and_self,tys,  hlt,hpl,hex,hcut,hcz,hspl,e0,h0l,hz,hz2,hmz,hlk,lookR,Option.map_none,hR,hts,hsl,h1l,h01,hwd,w1,hrc,cR,spGt_may,hmn,hm]
           rfl
         · have hln:=spGt_line (r:=rr)
           have hpre2:(mayB nmB rr=true∧In64 rr∧rr.list.length≤1000∧rr.name.length≤1000)=True:=eq_true ⟨hm,hin,hrl⟩
           rw[hpre2] at hln
           have hap:bt t++⟨#[10]⟩=bt (t++[10]):=bt_app t [10]
           have hsa:((bt t).size+(⟨#[10]⟩:ByteArray).size≤9223372036854775807)=True:=eq_true (by rw[size_bt];have:(⟨#[10]⟩:ByteArray).size=1:=rfl;omega)
           by_cases htx:textM rr=t
           · have hcmp:decide (bt (textM rr++[10])=bt (t++[10]))=true:=by rw[htx];exact decide_eq_true rfl
             rw[if_pos ⟨hm,htx⟩] at hlp
             rw[hlp] at hrd
             simp only at hrd
             have hb3:(acc.length+1)*64≤140737488355328:=by omega
             have hsn:cRl acc++[cR rr]=cRl (acc++[rr]):=cRl_app acc [rr]
             unfold cR at hsn
             have hal:=cRl_len acc
             have hwa:IntKind.i64.wrap ((t.length:Int)+1)=((t.length+1:Nat):Int):=by rw[IntWalk.i64_in _ (by omega)];omega
             have hwb:IntKind.i64.wrap ((p:Int)+((t.length+1:Nat):Int))=((p+t.length+1:Nat):Int):=by rw[IntWalk.i64_in _ (by omega)];omega
             have hts2:(bt t).size=t.length:=size_bt t
             simp (maxSteps:=2000000) only[↓awA,awB,evA,envE,ofV,putE,listH,setRow,spl,oneP,guardB,frzA,mapO,allSc,closeA,shiftA,shiftR,flatA,flat0,scA,Row.len,fillW,rep,chunks,closed1,Value.oneCell',Nat.reduceAdd,reduceIte,reduceCtorEq,Nat.reduceLT,Nat.reduceLeDiff,Nat.reduceEqDiff,Nat.reduceSub,Nat.reduceMul,frz1,frzR,eq_self,and_self,tys,  hlt,hpl,hex,hcut,hcz,hspl,e0,h0l,hz,hz2,hmz,hlk,lookR,Option.map_none,hR,hsl,h1l,h01,hwd,w1,hrc,cR,spGt_may,hmn,hm,hln,hap,hsa,hcmp,spGt_lit,hsn,hb3,hal,hts2,hwa,hwb]
             have hdr:s.data.toList.drop (p+t.length+1)=r:=by
              have h2:=(cut_index _ _ hc).2
              simp only at h2
              rw[show p+t.length+1=p+(t.length+1) by omega,←List.drop_drop,h2,List.drop_append,List.drop_of_length_le (by omega),List.nil_append,show t.length+1 - t.length=1 by omega]
              rfl
             refine⟨by omega,by have:(⟨#[10]⟩:ByteArray).size=1:=rfl;omega,loopQ_next (p+t.length+1,acc++[rr],f) ?_ ⟨by show p+t.length+1≤s.size;omega,by rw[List.length_append,List.length_singleton];show acc.length+1≤p+t.length+1;omega,by show s.size<p+t.length+1+f;omega, ?_⟩ (by show s.size - (p+t.length+1)<s.size - p;omega)⟩
             · simp[Weak,weakL,weakR,weakV,nilV,nilR,okA,listH,deads,pinR,isVarB,pin_pins,  cRl_len]
             · show readAll _ f (s.data.toList.drop (p+t.length+1)) (p+t.length+1) _=R
               rw[hdr]
               exact hrd
           · have hcmp:decide (bt (textM rr++[10])=bt (t++[10]))=false:=by
              refine decide_eq_false fun h=> ?_
              exact htx (List.append_cancel_right (bt_inj h))
             rw[if_neg (fun h=>htx h.2)] at hlp
             rw[hlp] at hrd
             simp only at hrd
             rw[←hrd]
             simp (maxSteps:=2000000) only[↓awA,awB,evA,envE,ofV,putE,listH,setRow,spl,oneP,guardB,frzA,mapO,allSc,closeA,shiftA,shiftR,flatA,flat0,scA,Row.len,fillW,rep,chunks,closed1,Value.oneCell',Nat.reduceAdd,reduceIte,reduceCtorEq,Nat.reduceLT,Nat.reduceLeDiff,Nat.reduceEqDiff,Nat.reduceSub,Nat.reduceMul,frz1,frzR,eq_self,and_self,tys,  hlt,hpl,hex,hcut,hcz,hspl,e0,h0l,hz,hz2,hmz,hlk,lookR,Option.map_none,hR,hts,hsl,h1l,h01,hwd,w1,hrc,cR,spGt_may,hmn,hm,hln,hap,hsa,hcmp]
             rfl
   · have hp2:p=s.size:=by omega
     rw[if_pos (List.drop_of_length_le (by omega))] at hrd
     rw[←hrd]
     have hcl:=cRl_len acc
     simp (maxSteps:=2000000) only[↓awA,awB,evA,envE,ofV,putE,listH,setRow,spl,oneP,guardB,frzA,mapO,allSc,closeA,shiftA,shiftR,flatA,flat0,scA,Row.len,fillW,rep,chunks,closed1,Value.oneCell',Nat.reduceAdd,reduceIte,reduceCtorEq,Nat.reduceLT,Nat.reduceLeDiff,Nat.reduceEqDiff,Nat.reduceSub,Nat.reduceMul,frz1,frzR,eq_self,and_self,tys,  hlt,hR,hcl]
     rfl
 · have hb2:=of_decide_eq_true hb
   have hg:getM (lineP nmB) s.data.toList=([],0,3):=if_pos (by omega)
   rw[hg]
   simp (maxSteps:=2000000) only[↓awA,awB,evA,envE,ofV,putE,listH,setRow,spl,oneP,guardB,frzA,mapO,allSc,closeA,shiftA,shiftR,flatA,flat0,scA,Row.len,fillW,rep,chunks,closed1,Value.oneCell',Nat.reduceAdd,reduceIte,reduceCtorEq,Nat.reduceLT,Nat.reduceLeDiff,Nat.reduceEqDiff,Nat.reduceSub,Nat.reduceMul,frz1,frzR,eq_self,and_self,tys,  hR,hb,cRl]
   rfl
end Go.Proofs.YtpjodoipceddpaaGreatDoor.Aw
