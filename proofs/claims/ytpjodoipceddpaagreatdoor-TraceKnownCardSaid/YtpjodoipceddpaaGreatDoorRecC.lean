/- Traces: what the document gets of a text, walked abstractly. -/
import Derived.Test.YtpjodoipceddpaaGreatDoorRecZc
namespace Go.Proofs.YtpjodoipceddpaaGreatDoor.Aw
open Go.RowKit Go.Lib Rc
set_option maxHeartbeats 8000000
set_option maxRecDepth 100000
theorem vc_relax {S:Nat→Prop} {w:World} {l l':List (List AV)} {v:Value} (h:VC S w (.ro l) v) (hl:l'.length=l.length)
 (hc:∀(i:Nat) e e',l[i]? =some e→l'[i]? =some e'→e'.length=e.length∧∀(j:Nat) x x',e[j]? =some x→e'[j]? =some x'→x'=x∨(x=.sc (.slice none 0 0)∧x'=.ro [])):VC S w (.ro l') v:=by
 cases h with
 |ro _ sz hz cs u hrd hll hw hv=>
  refine .ro l' sz hz cs v hrd (by omega) (fun i e' he'=> ?_) (fun i j e' c x' v' he' hcs hx' hv'=> ?_)
  · have hi:i<l.length:=by have:=(List.getElem?_eq_some_iff.1 he').1;omega
    have h1:=List.getElem?_eq_getElem hi
    have:=(hc i _ e' h1 he').1
    rw[this]
    exact hw i _ h1
  · have hi:i<l.length:=by have:=(List.getElem?_eq_some_iff.1 he').1;omega
    have h1:=List.getElem?_eq_getElem hi
    obtain⟨hlen,hcc⟩:=hc i _ e' h1 he'
    have hj:j<(l[i]).length:=by have:=(List.getElem?_eq_some_iff.1 hx').1;omega
    have h2:=List.getElem?_eq_getElem hj
    have hvc:=hv i j _ c _ v' h1 hcs h2 hv'
    rcases hcc j _ x' h2 hx' with e|⟨e1,e2⟩
    · rw[e];exact hvc
    · rw[e1] at hvc
      rw[e2,hvc.sc_inv]
      exact nil_vc
theorem con_relax {P:Program} {w:World} {f:FuncId} {args:List AV} {l l':List (List AV)} (h:ConAt P w f args (.ro l) []) (hl:l'.length=l.length)
 (hc:∀(i:Nat) e e',l[i]? =some e→l'[i]? =some e'→e'.length=e.length∧∀(j:Nat) x x',e[j]? =some x→e'[j]? =some x'→x'=x∨(x=.sc (.slice none 0 0)∧x'=.ro [])):ConAt P w f args (.ro l') []:=
 fun S vs hS hlen hv=>(h S vs hS hlen hv).mono fun e w' ⟨v,I,he,hm,hr⟩=>⟨v,I,he,hm,.cl _ _ (vc_relax hr.ro_inv hl hc)⟩
def cRs (l:List RecM):List (List AV):=l.map cR
theorem guessesR_con (W:List T) (hW:W.length≤2000000) (hs:∀x∈W,x.length≤2000000) (w:World):ConAt Tryz.prog w 16 [.ro (litS W)] (.ro (cRs (Rc.guesses W))) []:=by
 have hlen:(cRs (Rc.guesses W)).length=(litG (gAll W)).length:=by
  rw[←gAll_fst]
  unfold cRs litG
  rw[List.length_map,List.length_map,List.length_map]
 refine con_relax (guesses_con W hW hs w) hlen (fun i e e' he he'=> ?_)
 unfold litG at he
 rw[←gAll_fst] at he'
 unfold cRs at he'
 rw[List.map_map] at he'
 rw[List.getElem?_map] at he he'
 obtain⟨x,hx,rfl⟩:=Option.map_eq_some_iff.1 he
 rw[hx,Option.map_some,Option.some.injEq] at he'
 subst he'
 obtain⟨r,b⟩:=x
 refine⟨rfl,fun j y y' hy hy'=> ?_⟩
 have hn:=gAll_nil (List.mem_of_getElem? hx)
 simp only[Function.comp] at hy hy'
 unfold cG at hy
 unfold cR at hy'
 match j with
 |0|1|2|3=>
  left
  simp only[List.getElem?_cons_zero,List.getElem?_cons_succ,Option.some.injEq] at hy hy'
  rw[←hy,←hy']
 |4=>
  simp only[List.getElem?_cons_zero,List.getElem?_cons_succ,Option.some.injEq] at hy hy'
  cases b with
  |true=>
   right
   rw[if_pos rfl] at hy
   rw[hn rfl] at hy'
   exact⟨hy.symm,hy'.symm⟩
  |false=>
   left
   rw[←hy,←hy']
   rfl
 |j+5=>simp at hy
theorem nums_len2 (W:List T):(numsR (W.drop 1)).length≤W.length:=by
 have:=nums_len (W.drop 1)
 rw[List.length_drop] at this
 omega
theorem name_len {W:List T} {b:Nat} (hs:∀x∈W,x.length≤b):(nameR W).length≤b:=by
 unfold nameR
 split
 · rename_i h
   rw[List.getD_eq_getElem?_getD,List.getElem?_eq_getElem h]
   exact hs _ (List.getElem_mem h)
 · exact Nat.zero_le _
theorem guess_len {W:List T} {r:RecM} {b:Nat} (hs:∀x∈W,x.length≤b) (h:r∈Rc.guesses W):r.list.length≤W.length+1∧r.name.length≤b:=by
 have hn:=nums_len2 W
 unfold Rc.guesses at h
 rw[List.mem_append,List.mem_flatten,List.mem_flatten] at h
 rcases h with ⟨L,hL,h⟩|⟨L,hL,h⟩
 · obtain⟨o, -,rfl⟩:=List.mem_map.1 hL
   unfold guessOp at h
   split at h
   · simp only[List.append_nil,List.mem_cons,List.not_mem_nil,or_false] at h
     rcases h with rfl|rfl
     · exact⟨by show (numsR (W.drop 1)).length≤_;omega,Nat.zero_le _⟩
     · exact⟨Nat.zero_le _,Nat.zero_le _⟩
   · rename_i a n hc
     rw[hc,List.length_cons] at hn
     simp only[List.mem_append,List.mem_cons,List.not_mem_nil,or_false] at h
     rcases h with (rfl|rfl)|rfl
     · exact⟨by show (numsR (W.drop 1)).length≤_;rw[hc,List.length_cons];omega,Nat.zero_le _⟩
     · exact⟨Nat.zero_le _,Nat.zero_le _⟩
     · exact⟨by show n.length≤_;omega,Nat.zero_le _⟩
 · obtain⟨k, -,rfl⟩:=List.mem_map.1 hL
   unfold guessKind at h
   rw[List.mem_append] at h
   rcases h with h|h
   · split at h
     · rw[List.mem_singleton] at h
       rw[h]
       exact⟨by show [k].length≤_;simp,Nat.zero_le _⟩
     · cases h
   · rw[List.mem_singleton] at h
     rw[h]
     exact⟨by show [k].length≤_;simp,name_len hs⟩
noncomputable def spC :Spec:=(((spN.tell 17 (byE eS (fun s=>s.size≤1100000) (fun s=>.ro (litS (pieces s.data.toList))))).tell
 16 (byE (fun W:List T=>[.ro (litS W)]) (fun W=>W.length≤2000000∧∀x∈W,x.length≤2000000) (fun W=>.ro (cRs (Rc.guesses W))))).tell
 18 (byE eR (fun r=>r.name.length≤9223372036854775807) (fun r=>.sc (.bool (mayB nmB r))))).tell
 19 (byE eR (fun r=>mayB nmB r=true∧In64 r∧r.list.length≤1000000∧r.name.length≤1000000) (fun r=>.sc (.string (bt (textM r++[10])))))
theorem litS_inj {x y:List T} (h:([.ro (litS x)]:List AV)=[.ro (litS y)]):x=y:=by
 simp only[List.cons.injEq,AV.ro.injEq,and_true] at h
 unfold litS at h
 have h:=(List.map_inj_right (fun a b hab=>eS_inj hab)).1 h
 exact(List.map_inj_right (fun a b hab=>bt_inj hab)).1 h
theorem spC_parts {s:ByteArray}:spC.call 17 [.sc (.string s)]=some (s.size≤1100000,.ro (litS (pieces s.data.toList)),[]):=by
 unfold spC
 rw[tell_ne (by rfl),tell_ne (by rfl),tell_ne (by rfl),tell_same]
 exact byE_eq (fun _ _=>eS_inj) s
theorem spC_guesses {W:List T}:spC.call 16 [.ro (litS W)]=some ((W.length≤2000000∧∀x∈W,x.length≤2000000),.ro (cRs (Rc.guesses W)),[]):=by
 unfold spC
 rw[tell_ne (by rfl),tell_ne (by rfl),tell_same]
 exact byE_eq (fun _ _=>litS_inj) W
theorem spC_may {r:RecM}:spC.call 18 [.agg [.sc (.int .u8 (r.op:Int)),.sc (.int .i64 r.at_),.sc (.string (bt r.name)),.sc (.int .i64 r.arg),.ro (r.list.map eI)]]=some (r.name.length≤9223372036854775807,.sc (.bool (mayB nmB r)),[]):=by
 unfold spC
 rw[tell_ne (by rfl),tell_same]
 exact byE_eq eR_inj r
theorem spC_line {r:RecM}:spC.call 19 [.agg [.sc (.int .u8 (r.op:Int)),.sc (.int .i64 r.at_),.sc (.string (bt r.name)),.sc (.int .i64 r.arg),.ro (r.list.map eI)]]=some ((mayB nmB r=true∧In64 r∧r.list.length≤1000000∧r.name.length≤1000000),.sc (.string (bt (textM r++[10]))),[]):=by
 unfold spC
 rw[tell_same]
 exact byE_eq eR_inj r
theorem spC_ok (w:World) {fp:Nat→Prop}:SpecOk Tryz.prog spC w fp:=
 tell_ok (tell_ok (tell_ok (tell_ok (spN_ok w) (enters_of' Tryz.func17 (by kernel_rfl)) (byE_ok fun a h w _=>parts_con a h w)) (enters_of' Tryz.func16 (by kernel_rfl)) (byE_ok fun a h w _=>guessesR_con a h.1 h.2 w))
  (enters_of' Tryz.func18 (by kernel_rfl)) (byE_ok fun a h w _=>may31_con a h w)) (enters_of' Tryz.func19 (by kernel_rfl)) (byE_ok fun a h w _=>line31_con a (may_of h.1) h.2.1 h.2.2.1 h.2.2.2 w)
theorem spC_lit :(spC.lit=true)=False:=eq_false (fun h=>by cases h)
theorem pieces_len :∀t:T,(pieces t).length≤t.length+1∧∀x∈pieces t,x.length≤t.length
 |[]=>⟨by simp[pieces],by simp[pieces]⟩
 |c::s=>by
  obtain⟨h1,h2⟩:=pieces_len s
  rw[pieces]
  split
  · refine⟨by rw[List.length_cons,List.length_cons];omega,fun x hx=> ?_⟩
    rw[List.mem_cons] at hx
    rcases hx with rfl|hx
    · simp
    · have:=h2 x hx
      rw[List.length_cons]
      omega
  · split
    · refine⟨by simp,fun x hx=> ?_⟩
      rw[List.mem_singleton] at hx
      rw[hx]
      simp
    · rename_i y l hp
      rw[hp] at h1 h2
      refine⟨by rw[List.length_cons] at h1⊢;rw[List.length_cons];omega,fun x hx=> ?_⟩
      rw[List.mem_cons] at hx
      rcases hx with rfl|hx
      · have:=h2 y List.mem_cons_self
        rw[List.length_cons,List.length_cons]
        omega
      · have:=h2 x (List.mem_cons_of_mem _ hx)
        rw[List.length_cons]
        omega
theorem cRs_len (l:List RecM):(cRs l).length=l.length:=by unfold cRs;rw[List.length_map]
theorem cRs_app (l m:List RecM):cRs l++cRs m=cRs (l++m):=by unfold cRs;rw[List.map_append]
theorem cRs_at {l:List RecM} {i:Nat} {x:RecM} (h:l[i]? =some x):at_ (cRs l) i=cR x:=at_some h
theorem guesses_len (W:List T):(Rc.guesses W).length≤50:=by
 rw[←gAll_fst,List.length_map]
 exact gK_len (numsR (W.drop 1)) (nameR W) (argR (W.drop 1)) 4 (by omega) (by omega)
theorem cutL_run :∀(t r:T),(∀c∈t,c≠10)→cutL (t++10::r)=some (t,r)
 |[],r,_=>rfl
 |c::t,r,h=>by
  rw[List.cons_append,cutL,if_neg (h c List.mem_cons_self),cutL_run t r (fun x hx=>h x (List.mem_cons_of_mem _ hx))]
  rfl
theorem cutL_no :∀(t:T),(∀c∈t,c≠10)→cutL t=none
 |[],_=>rfl
 |c::t,h=>by
  rw[cutL,if_neg (h c List.mem_cons_self),cutL_no t (fun x hx=>h x (List.mem_cons_of_mem _ hx))]
  rfl
abbrev okG (t:T) (r:RecM):Bool:=mayB nmB r && decide (textM r=t)
theorem find_take {p:RecM→Bool} {l:List RecM} {i:Nat} {x:RecM} (hx:l[i]? =some x) (h:(l.take i).find? p=none) (hp:p x=true):l.find? p=some x:=by
 have hi:=(List.getElem?_eq_some_iff.1 hx).1
 have e:l=l.take i++x::l.drop (i+1):=by
  rw[←drop_at hx,List.take_append_drop]
 rw[e,List.find?_append,h,Option.none_or,List.find?_cons,hp]
theorem find_take1 {p:RecM→Bool} {l:List RecM} {i:Nat} {x:RecM} (hx:l[i]? =some x) (h:(l.take i).find? p=none) (hp:p x=false):(l.take (i+1)).find? p=none:=by
 rw[take_at hx,List.find?_append,h,Option.none_or,List.find?_cons,hp]
 rfl
theorem get31_con (s:ByteArray) (hs:s.size≤100000∨1048576<s.size) (w:World):ConAt Tryz.prog w 6 (eS s) (.tup [.ro (cRs (getM (lineR nmB) s.data.toList).1),.sc (.int .i64 (getM (lineR nmB) s.data.toList).2.1),.sc (.int .i64 (getM (lineR nmB) s.data.toList).2.2)]) []:=by
 unfold eS
 refine con_of_aw (sp:=spC) (Φ:=fun _=>True) [] (fun w _=>spC_ok w) (by kernel_rfl) Tryz.func6 rfl ?_ w trivial
 intro hLen
 simp only[Tryz.ntmps6,List.length_cons,List.length_nil,Nat.reduceAdd,Nat.reduceSub,List.replicate_succ,List.replicate_zero,List.cons_append,List.nil_append]
 have hR:=Tryz.results6
 have hl:s.data.toList.length=s.size:=rfl
 cases hb:decide ((s.size:Int)>1048576)
 · have hb2:=of_decide_eq_false hb
   have hsz:s.size≤100000:=by omega
   have hg:getM (lineR nmB) s.data.toList=readAll (lineR nmB) (s.size+1) s.data.toList 0 []:=if_neg (by omega)
   rw[hg]
   obtain⟨R,hRR⟩:∃R,R=readAll (lineR nmB) (s.size+1) s.data.toList 0 []:=⟨_,rfl⟩
   rw[←hRR]
   simp (maxSteps:=2000000) only[↓awA,awB,evA,envE,ofV,putE,listH,setRow,spl,oneP,guardB,frzA,mapO,allSc,closeA,shiftA,shiftR,flatA,flat0,scA,Row.len,fillW,rep,chunks,closed1,Value.oneCell',Nat.reduceAdd,reduceIte,reduceCtorEq,Nat.reduceLT,Nat.reduceLeDiff,Nat.reduceEqDiff,Nat.reduceSub,Nat.reduceMul,frz1,frzR,eq_self,and_self,tys,  hR,hb]
   refine aw_loop (fun x:Nat×List RecM×Nat=>[.sc (.string s),.dead,.dead,.dead,.dead,.sl 0 x.2.1.length,.sc (.int .i64 (x.1:Int))]++deads 75) (fun x=>[.lst 5 (cRs x.2.1) 49])
    (fun x=>x.1≤s.size∧x.2.1.length≤x.1∧s.size<x.1+x.2.2∧readAll (lineR nmB) x.2.2 (s.data.toList.drop x.1) x.1 x.2.1=R) (fun x=>s.size - x.1) (0,[],s.size+1) ?_ ⟨Nat.zero_le _,Nat.le_refl _,by simp,hRR.symm⟩ ?_ (fun _ _=>by rw[show spC.pins=0 from rfl];trivial)
   · simp[Weak,weakL,weakR,weakV,nilV,nilR,okA,listH,deads,pinR,isVarB,pin_pins,  cRs]
   rintro⟨p,acc,f⟩ ⟨hp,hacc,hf,hrd⟩
   simp only at hp hacc hf hrd
   simp only[deads,List.replicate_succ,List.replicate_zero,List.cons_append,List.nil_append]
   obtain⟨f,rfl⟩:∃g,f=g+1:=⟨f - 1,by omega⟩
   rw[readAll] at hrd
   by_cases hlt:p<s.size
   · rw[if_neg (by intro h;have:=congrArg List.length h;rw[List.length_drop,hl] at this;simp at this;omega)] at hrd
     simp (maxSteps:=2000000) only[↓awA,awB,evA,envE,ofV,putE,listH,setRow,spl,oneP,guardB,frzA,mapO,allSc,closeA,shiftA,shiftR,flatA,flat0,scA,Row.len,fillW,rep,chunks,closed1,Value.oneCell',Nat.reduceAdd,reduceIte,reduceCtorEq,Nat.reduceLT,Nat.reduceLeDiff,Nat.reduceEqDiff,Nat.reduceSub,Nat.reduceMul,frz1,frzR,eq_self,and_self,tys,  hlt]
     refine aw_loop (fun e:Nat=>[.sc (.string s),.dead,.dead,.dead,.dead,.sl 0 acc.length,.sc (.int .i64 (p:Int)),.sc (.int .i64 (e:Int))]++deads 74) (fun e=>[.lst 5 (cRs acc) 49])
      (fun e=>p≤e∧e≤s.size∧∀c∈(s.data.toList.take e).drop p,c≠10) (fun e=>s.size - e) p ?_ ⟨Nat.le_refl _,hp,by simp⟩ ?_ (fun _ _=>by rw[show spC.pins=0 from rfl];trivial)
     · simp[Weak,weakL,weakR,weakV,nilV,nilR,okA,listH,deads,pinR,isVarB,pin_pins]
     rintro e ⟨he1,he2,he3⟩
     simp only[deads,List.replicate_succ,List.replicate_zero,List.cons_append,List.nil_append]
     by_cases hle:e<s.size
     · obtain⟨c,hc⟩:∃c,s.data.toList[e]? =some c:=⟨_,List.getElem?_eq_getElem (by omega)⟩
       have e2:=byteAt_some hc
       by_cases h10:c=10
       · have hc1:((c.toNat:Int) !=10)=false:=by rw[h10];rfl
         have hline:cutL (s.data.toList.drop p)=some ((s.data.toList.take e).drop p,s.data.toList.drop (e+1)):=by
          have e1:s.data.toList.drop p=(s.data.toList.take e).drop p++10::s.data.toList.drop (e+1):=by
           rw[←h10,←drop_at hc,←List.drop_append_of_le_length (by rw[List.length_take];omega),List.take_append_drop]
          rw[e1]
          exact cutL_run _ _ he3
         rw[hline] at hrd
         obtain⟨t,ht⟩:∃t,t=(s.data.toList.take e).drop p:=⟨_,rfl⟩
         rw[←ht] at hrd
         have htl:t.length=e - p:=by rw[ht,List.length_drop,List.length_take];omega
         simp only at hrd
         have hext:s.extract p e=bt t:=by
          rw[←bt_list (s.extract p e),extract_data,ht,List.drop_take]
         have hpb:=pieces_len t
         obtain⟨W,hW⟩:∃W,W=pieces t:=⟨_,rfl⟩
         obtain⟨L,hL⟩:∃L,L=Rc.guesses W:=⟨_,rfl⟩
         have hWl:W.length≤2000000∧∀x∈W,x.length≤2000000:=by
          rw[hW]
          exact⟨by omega,fun x hx=>by have:=hpb.2 x hx;omega⟩
         have hbs:(bt t).size≤1100000:=by rw[size_bt];omega
         have hpe:(p:Int)≤(e:Int):=by omega
         have hes:(e:Int)≤s.size:=by omega
         have hcl:=cRs_len L
         have hpt:spC.call 17 [.sc (.string (bt t))]=some ((bt t).size≤1100000,.ro (litS W),[]):=by
          rw[spC_parts,list_bt,hW]
         have hgs:spC.call 16 [.ro (litS W)]=some ((W.length≤2000000∧∀x∈W,x.length≤2000000),.ro (cRs L),[]):=by
          rw[spC_guesses,hL]
         simp (maxSteps:=2000000) only[↓awA,awB,evA,envE,ofV,putE,listH,setRow,spl,oneP,guardB,frzA,mapO,allSc,closeA,shiftA,shiftR,flatA,flat0,scA,Row.len,fillW,rep,chunks,closed1,Value.oneCell',Nat.reduceAdd,reduceIte,reduceCtorEq,Nat.reduceLT,Nat.reduceLeDiff,Nat.reduceEqDiff,Nat.reduceSub,Nat.reduceMul,frz1,frzR,eq_self,and_self,tys,  hle,e2,hc1,hpe,hes,hext,hpt,hbs,hgs,hWl]
         refine⟨hWl.2, ?_⟩
         refine aw_loop (fun x:Nat×Option RecM=>[.sc (.string s),.dead,.dead,.dead,.dead,.sl 0 (acc++x.2.toList).length,.sc (.int .i64 (p:Int)),.sc (.int .i64 (e:Int)),.sc (.bool x.2.isSome),.ro (cRs L),.sc (.int .i64 (x.1:Int))]++deads 71) (fun x=>[.lst 5 (cRs (acc++x.2.toList)) 49])
          (fun x=>x.1≤L.length∧(x.2=none→(L.take x.1).find? (okG t)=none)∧(∀r,x.2=some r→L.find? (okG t)=some r)) (fun x=>L.length - x.1) (0,none) ?_ ⟨Nat.zero_le _,fun _=>rfl,fun r h=>by cases h⟩ ?_ (fun _ _=>by rw[show spC.pins=0 from rfl];trivial)
         · simp[Weak,weakL,weakR,weakV,nilV,nilR,okA,listH,deads,pinR,isVarB,pin_pins,  List.append_nil]
         rintro⟨i,o⟩ ⟨hi,hno,hso⟩
         simp only at hi hno hso
         simp only[deads,List.replicate_succ,List.replicate_zero,List.cons_append,List.nil_append]
         have hlr:lineR nmB t=L.find? (okG t):=by rw[hL,hW];rfl
         have hwe:=wr_lt hle (by omega)
         cases o with
         |some r=>
          have hfr:=hso r rfl
          rw[hlr,hfr] at hrd
          simp only at hrd
          have hnb:(Option.some r).isSome=true:=rfl
          by_cases hil:i<L.length
          · simp (maxSteps:=2000000) only[↓awA,awB,evA,envE,ofV,putE,listH,setRow,spl,oneP,guardB,frzA,mapO,allSc,closeA,shiftA,shiftR,flatA,flat0,scA,Row.len,fillW,rep,chunks,closed1,Value.oneCell',Nat.reduceAdd,reduceIte,reduceCtorEq,Nat.reduceLT,Nat.reduceLeDiff,Nat.reduceEqDiff,Nat.reduceSub,Nat.reduceMul,frz1,frzR,eq_self,and_self,tys,  hcl,hnb,hil]
            refine loopQ_next (e+1,acc++[r],f) ?_ ⟨by omega,by rw[List.length_append,List.length_singleton];show acc.length+1≤e+1;omega,by show s.size<e+1+f;omega, ?_⟩ (by show s.size - (e+1)<s.size - p;omega)
            · simp[Weak,weakL,weakR,weakV,nilV,nilR,okA,listH,deads,pinR,isVarB,pin_pins,  hwe,Option.toList_some]
            · show readAll _ f (s.data.toList.drop (e+1)) (e+1) _=R
              rw[←hrd,htl]
              congr 1
              omega
          · simp (maxSteps:=2000000) only[↓awA,awB,evA,envE,ofV,putE,listH,setRow,spl,oneP,guardB,frzA,mapO,allSc,closeA,shiftA,shiftR,flatA,flat0,scA,Row.len,fillW,rep,chunks,closed1,Value.oneCell',Nat.reduceAdd,reduceIte,reduceCtorEq,Nat.reduceLT,Nat.reduceLeDiff,Nat.reduceEqDiff,Nat.reduceSub,Nat.reduceMul,frz1,frzR,eq_self,and_self,tys,  hcl,hnb,hil]
            refine loopQ_next (e+1,acc++[r],f) ?_ ⟨by omega,by rw[List.length_append,List.length_singleton];show acc.length+1≤e+1;omega,by show s.size<e+1+f;omega, ?_⟩ (by show s.size - (e+1)<s.size - p;omega)
            · simp[Weak,weakL,weakR,weakV,nilV,nilR,okA,listH,deads,pinR,isVarB,pin_pins,  hwe,Option.toList_some]
            · show readAll _ f (s.data.toList.drop (e+1)) (e+1) _=R
              rw[←hrd,htl]
              congr 1
              omega
         |none=>
          have hno:=hno rfl
          have hnb:(Option.none:Option RecM).isSome=false:=rfl
          have htn:(Option.none:Option RecM).toList=[]:=rfl
          by_cases hil2:i<L.length
          rotate_left
          · have hil:=hil2
            have hil2:i=L.length:=by omega
            rw[hil2,List.take_length] at hno
            rw[hlr,hno] at hrd
            simp only at hrd
            rw[←hrd]
            simp (maxSteps:=2000000) only[↓awA,awB,evA,envE,ofV,putE,listH,setRow,spl,oneP,guardB,frzA,mapO,allSc,closeA,shiftA,shiftR,flatA,flat0,scA,Row.len,fillW,rep,chunks,closed1,Value.oneCell',Nat.reduceAdd,reduceIte,reduceCtorEq,Nat.reduceLT,Nat.reduceLeDiff,Nat.reduceEqDiff,Nat.reduceSub,Nat.reduceMul,frz1,frzR,eq_self,and_self,tys,  hcl,hnb,hil,htn,hR]
            rfl
          · obtain⟨r,hr⟩:∃r,L[i]? =some r:=⟨_,List.getElem?_eq_getElem hil2⟩
            have hat:=cRs_at hr
            have hmem:r∈Rc.guesses W:=by rw[←hL];exact List.mem_of_getElem? hr
            have hin:=guess_in hmem
            have hgl:=guess_len (b:=100000) (fun x hx=>by have:=hpb.2 x (hW ▸ hx);omega) hmem
            have hWl2:W.length≤100001:=by rw[hW];omega
            have hrn:r.name.length≤9223372036854775807:=by omega
            have hrl:r.list.length≤1000000:=by omega
            have hrn2:r.name.length≤1000000:=by omega
            have hLl:L.length≤50:=by rw[hL];exact guesses_len W
            have hw2:=wr_lt hil2 (by omega)
            have hext2:s.extract p (e+1)=bt (t++[10]):=by
             rw[←bt_list (s.extract p (e+1)),extract_data,ht,←List.drop_take,take_at hc,h10,List.drop_append_of_le_length (by rw[List.length_take];omega)]
            cases hmay:mayB nmB r
            · simp (maxSteps:=2000000) only[↓awA,awB,evA,envE,ofV,putE,listH,setRow,spl,oneP,guardB,frzA,mapO,allSc,closeA,shiftA,shiftR,flatA,flat0,scA,Row.len,fillW,rep,chunks,closed1,Value.oneCell',Nat.reduceAdd,reduceIte,reduceCtorEq,Nat.reduceLT,Nat.reduceLeDiff,Nat.reduceEqDiff,Nat.reduceSub,Nat.reduceMul,frz1,frzR,eq_self,and_self,tys,  hcl,hnb,htn,hil2,hat,cR,spC_may,hrn,hmay]
              refine⟨Dr_of (by kernel_rfl),loopQ_next (i+1,none) ?_ ⟨hil2,fun _=>find_take1 hr hno (by unfold okG;rw[hmay];rfl),fun r h=>by cases h⟩ (by show L.length - (i+1)<L.length - i;omega)⟩
              simp[Weak,weakL,weakR,weakV,nilV,nilR,okA,listH,deads,pinR,isVarB,pin_pins,  hw2,List.append_nil]
            · have hln:spC.call 19 [.agg [.sc (.int .u8 (r.op:Int)),.sc (.int .i64 r.at_),.sc (.string (bt r.name)),.sc (.int .i64 r.arg),.ro (r.list.map eI)]]=some ((mayB nmB r=true∧In64 r∧r.list.length≤1000000∧r.name.length≤1000000),.sc (.string (bt (textM r++[10]))),[]):=spC_line
              have hpre:(mayB nmB r=true∧In64 r∧r.list.length≤1000000∧r.name.length≤1000000)=True:=eq_true ⟨hmay,hin,hrl,hrn2⟩
              rw[hpre] at hln
              have hpe1:(p:Int)≤((e+1:Nat):Int):=by omega
              have hes1:((e+1:Nat):Int)≤s.size:=by omega
              by_cases htx:textM r=t
              · have hcmp:decide (bt (textM r++[10])=bt (t++[10]))=true:=by rw[htx];exact decide_eq_true rfl
                have hb3:(acc.length+1)*64≤140737488355328:=by omega
                have hsn:cRs acc++[cR r]=cRs (acc++[r]):=cRs_app acc [r]
                unfold cR at hsn
                have hal:=cRs_len acc
                simp (maxSteps:=2000000) only[↓awA,awB,evA,envE,ofV,putE,listH,setRow,spl,oneP,guardB,frzA,mapO,allSc,closeA,shiftA,shiftR,flatA,flat0,scA,Row.len,fillW,rep,chunks,closed1,Value.oneCell',Nat.reduceAdd,reduceIte,reduceCtorEq,Nat.reduceLT,Nat.reduceLeDiff,Nat.reduceEqDiff,Nat.reduceSub,Nat.reduceMul,frz1,frzR,eq_self,and_self,tys,  hcl,hnb,htn,hil2,hat,cR,spC_may,hrn,hmay,hln,hwe,hpe1,hes1,hext2,hcmp,spC_lit,hsn,hb3,hal]
                refine⟨Dr_of (by kernel_rfl),loopQ_next (i+1,some r) ?_ ⟨hil2,fun h=>(by cases h),fun r' h=> ?_⟩ (by show L.length - (i+1)<L.length - i;omega)⟩
                · simp[Weak,weakL,weakR,weakV,nilV,nilR,okA,listH,deads,pinR,isVarB,pin_pins,  hw2,cRs_len,Option.toList_some]
                · cases h
                  exact find_take hr hno (by unfold okG;rw[hmay,decide_eq_true htx];rfl)
              · have hcmp:decide (bt (textM r++[10])=bt (t++[10]))=false:=by
                 refine decide_eq_false fun h=> ?_
                 exact htx (List.append_cancel_right (bt_inj h))
                simp (maxSteps:=2000000) only[↓awA,awB,evA,envE,ofV,putE,listH,setRow,spl,oneP,guardB,frzA,mapO,allSc,closeA,shiftA,shiftR,flatA,flat0,scA,Row.len,fillW,rep,chunks,closed1,Value.oneCell',Nat.reduceAdd,reduceIte,reduceCtorEq,Nat.reduceLT,Nat.reduceLeDiff,Nat.reduceEqDiff,Nat.reduceSub,Nat.reduceMul,frz1,frzR,eq_self,and_self,tys,  hcl,hnb,htn,hil2,hat,cR,spC_may,hrn,hmay,hln,hwe,hpe1,hes1,hext2,hcmp]
                refine⟨Dr_of (by kernel_rfl),loopQ_next (i+1,none) ?_ ⟨hil2,fun _=>find_take1 hr hno (by unfold okG;rw[decide_eq_false htx,Bool.and_false]),fun r h=>by cases h⟩ (by show L.length - (i+1)<L.length - i;omega)⟩
                simp[Weak,weakL,weakR,weakV,nilV,nilR,okA,listH,deads,pinR,isVarB,pin_pins,  hw2,List.append_nil]
       · have hc1:((c.toNat:Int) !=10)=true:=by
          rw[bne_iff_ne]
          intro h
          exact h10 (UInt8.toNat_inj.1 (by show c.toNat=10;omega))
         have hw:=wr_lt hle (by omega)
         simp (maxSteps:=2000000) only[↓awA,awB,evA,envE,ofV,putE,listH,setRow,spl,oneP,guardB,frzA,mapO,allSc,closeA,shiftA,shiftR,flatA,flat0,scA,Row.len,fillW,rep,chunks,closed1,Value.oneCell',Nat.reduceAdd,reduceIte,reduceCtorEq,Nat.reduceLT,Nat.reduceLeDiff,Nat.reduceEqDiff,Nat.reduceSub,Nat.reduceMul,frz1,frzR,eq_self,and_self,tys,  hle,e2,hc1]
         refine loopQ_next (e+1) ?_ ⟨by omega,hle, ?_⟩ (by omega)
         · simp[Weak,weakL,weakR,weakV,nilV,nilR,okA,listH,deads,pinR,isVarB,pin_pins,  hw]
         · rw[take_at hc,List.drop_append_of_le_length (by rw[List.length_take];omega)]
           intro x hx
           rw[List.mem_append,List.mem_singleton] at hx
           rcases hx with hx|rfl
           · exact he3 x hx
           · exact h10
     · have hes:e=s.size:=by omega
       rw[hes,List.take_of_length_le (by omega)] at he3
       rw[cutL_no _ he3] at hrd
       simp only at hrd
       rw[←hrd]
       simp (maxSteps:=2000000) only[↓awA,awB,evA,envE,ofV,putE,listH,setRow,spl,oneP,guardB,frzA,mapO,allSc,closeA,shiftA,shiftR,flatA,flat0,scA,Row.len,fillW,rep,chunks,closed1,Value.oneCell',Nat.reduceAdd,reduceIte,reduceCtorEq,Nat.reduceLT,Nat.reduceLeDiff,Nat.reduceEqDiff,Nat.reduceSub,Nat.reduceMul,frz1,frzR,eq_self,and_self,tys,  hle,hR]
       rfl
   · have hp2:p=s.size:=by omega
     rw[if_pos (List.drop_of_length_le (by omega))] at hrd
     rw[←hrd]
     have hcl:=cRs_len acc
     simp (maxSteps:=2000000) only[↓awA,awB,evA,envE,ofV,putE,listH,setRow,spl,oneP,guardB,frzA,mapO,allSc,closeA,shiftA,shiftR,flatA,flat0,scA,Row.len,fillW,rep,chunks,closed1,Value.oneCell',Nat.reduceAdd,reduceIte,reduceCtorEq,Nat.reduceLT,Nat.reduceLeDiff,Nat.reduceEqDiff,Nat.reduceSub,Nat.reduceMul,frz1,frzR,eq_self,and_self,tys,  hlt,hR,hcl]
     rfl
 · have hb2:=of_decide_eq_true hb
   have hg:getM (lineR nmB) s.data.toList=([],0,3):=if_pos (by omega)
   rw[hg]
   simp (maxSteps:=2000000) only[↓awA,awB,evA,envE,ofV,putE,listH,setRow,spl,oneP,guardB,frzA,mapO,allSc,closeA,shiftA,shiftR,flatA,flat0,scA,Row.len,fillW,rep,chunks,closed1,Value.oneCell',Nat.reduceAdd,reduceIte,reduceCtorEq,Nat.reduceLT,Nat.reduceLeDiff,Nat.reduceEqDiff,Nat.reduceSub,Nat.reduceMul,frz1,frzR,eq_self,and_self,tys,  hR,hb,cRs]
   rfl
end Go.Proofs.YtpjodoipceddpaaGreatDoor.Aw
