/- Traces: what stands between blanks, to the document, walked abstractly. -/
import Derived.Test.YtpjodoipceddpaaGreatDoorRecK
namespace Go.Proofs.YtpjodoipceddpaaGreatDoor.Aw
open Go.RowKit Go.Lib Rc
set_option maxHeartbeats 8000000
set_option maxRecDepth 100000
theorem litS_len (L:List T):(litS L).length=L.length:=by unfold litS;simp
theorem litS_app (L M:List T):litS L++litS M=litS (L++M):=by unfold litS;simp
theorem litS_set (L:List T) (i:Nat) (x:T):(litS L).set i [.sc (.string (bt x))]=litS (L.set i x):=by
 unfold litS
 rw[List.map_set,List.map_set]
 rfl
theorem litS_at {L:List T} {i:Nat} {x:T} (h:L[i]? =some x):at_ (litS L) i=[.sc (.string (bt x))]:=by
 have h2:(L.map bt)[i]? =some (bt x):=by rw[List.getElem?_map,h];rfl
 exact at_some h2
theorem extract_one {s:ByteArray} {i:Nat} {c:UInt8} (h:s.data.toList[i]? =some c):s.extract i (i+1)=bt [c]:=by
 have h1:(s.extract i (i+1)).data.toList=[c]:=by
  rw[extract_data,drop_at h]
  simp
 rw[←h1,bt_list]
theorem parts_con (s:ByteArray) (hs:s.size≤1100000) (w:World):ConAt Tryz.prog w 17 (eS s) (.ro (litS (pieces s.data.toList))) []:=by
 unfold eS
 refine con_of_aw (sp:=spN) (Φ:=fun _=>True) [] (fun w _=>spN_ok w) (by kernel_rfl) Tryz.func17 rfl ?_ w trivial
 intro hLen
 simp only[Tryz.ntmps17,List.length_cons,List.length_nil,Nat.reduceAdd,Nat.reduceSub,List.replicate_succ,List.replicate_zero,List.cons_append,List.nil_append]
 have hl:s.data.toList.length=s.size:=rfl
 rw[←parts_pieces]
 simp (maxSteps:=2000000) only[↓awA,awB,evA,envE,ofV,putE,listH,setRow,spl,oneP,guardB,frzA,mapO,allSc,closeA,shiftA,shiftR,flatA,flat0,scA,Row.len,fillW,rep,chunks,closed1,Value.oneCell',Nat.reduceAdd,reduceIte,reduceCtorEq,Nat.reduceLT,Nat.reduceLeDiff,Nat.reduceEqDiff,Nat.reduceSub,Nat.reduceMul,frz1,frzR,eq_self,and_self,tys,  spN_lit,Tryz.results17]
 refine aw_loop (fun i:Nat=>[.sc (.string s),.dead,.dead,.sl 0 (((s.data.toList.take i).foldl stepP [[]]).length),.sc (.int .i64 (i:Int))]++deads 32) (fun i=>[.lst 1 (litS ((s.data.toList.take i).foldl stepP [[]])) 9])
  (fun i=>i≤s.size∧0<((s.data.toList.take i).foldl stepP [[]]).length∧((s.data.toList.take i).foldl stepP [[]]).length≤i+1∧(∀x∈(s.data.toList.take i).foldl stepP [[]],x.length≤i)) (fun i=>s.size - i) 0 ?_ ⟨Nat.zero_le _,by simp,by simp,by simp⟩ ?_ (fun _ _=>trivial)
 · simp[Weak,weakL,weakR,weakV,nilV,nilR,okA,listH,deads,pinR,isVarB,pin_pins,  litS,bt,eS]
 rintro i ⟨hi,hA,hB,hC⟩
 simp only[deads,List.replicate_succ,List.replicate_zero,List.cons_append,List.nil_append]
 by_cases hlt:i<s.size
 · obtain⟨x,hx⟩:∃x,s.data.toList[i]? =some x:=⟨_,List.getElem?_eq_getElem (by omega)⟩
   have e2:=byteAt_some hx
   have hw:=wr_lt hlt (by omega)
   have hnext:(s.data.toList.take (i+1)).foldl stepP [[]]=stepP ((s.data.toList.take i).foldl stepP [[]]) x:=by
    rw[take_at hx,List.foldl_append]
    rfl
   obtain⟨L,hL⟩:∃L,L=(s.data.toList.take i).foldl stepP [[]]:=⟨_,rfl⟩
   rw[←hL] at hA hB hC hnext⊢
   have hll:=litS_len L
   by_cases hc:x=32
   · have c:((x.toNat:Int)==32)=true:=by rw[hc];rfl
     have hst:stepP L x=L++[[]]:=if_pos hc
     rw[hst] at hnext
     have hsn:litS L++[[.sc (.string ⟨#[]⟩)]]=litS (L++[[]]):=litS_app L [[]]
     have hb:(L.length+1)*16≤140737488355328:=by omega
     simp (maxSteps:=2000000) only[↓awA,awB,evA,envE,ofV,putE,listH,setRow,spl,oneP,guardB,frzA,mapO,allSc,closeA,shiftA,shiftR,flatA,flat0,scA,Row.len,fillW,rep,chunks,closed1,Value.oneCell',Nat.reduceAdd,reduceIte,reduceCtorEq,Nat.reduceLT,Nat.reduceLeDiff,Nat.reduceEqDiff,Nat.reduceSub,Nat.reduceMul,frz1,frzR,eq_self,and_self,tys,  hlt,e2,c,spN_lit,hll,hsn,hb]
     refine loopQ_next (i+1) ?_ ⟨hlt,by rw[hnext];simp,by rw[hnext];simp;omega,fun y hy=> ?_⟩ (by omega)
     · simp[Weak,weakL,weakR,weakV,nilV,nilR,okA,listH,deads,pinR,isVarB,pin_pins,  hw,hnext,litS_len]
     · rw[hnext,List.mem_append,List.mem_singleton] at hy
       rcases hy with hy|rfl
       · have:=hC y hy
         omega
       · simp
   · have c:((x.toNat:Int)==32)=false:=by
      rw[beq_eq_false_iff_ne]
      intro h
      exact hc (UInt8.toNat_inj.1 (by show x.toNat=32;omega))
     obtain⟨m,hm⟩:∃m,L.length=m+1:=⟨L.length - 1,by omega⟩
     obtain⟨y,hy⟩:∃y,L[m]? =some y:=⟨_,List.getElem?_eq_getElem (by omega)⟩
     have hst:stepP L x=L.set m (y++[x]):=by
      unfold stepP
      rw[if_neg hc,hm,Nat.add_sub_cancel,List.getD_eq_getElem?_getD,hy]
      rfl
     rw[hst] at hnext
     have hyl:=hC y (List.mem_of_getElem? hy)
     have hwp:=wr_pred (i:=m) (by omega)
     have e3:=litS_at hy
     have hex:=extract_one hx
     have hmm:m<m+1:=by omega
     have hs1:(bt y).size+(bt [x]).size≤9223372036854775807:=by rw[size_bt,size_bt];simp;omega
     have hap:bt y++bt [x]=bt (y++[x]):=bt_app y [x]
     have hse:=litS_set L m (y++[x])
     have hii:(i:Int)≤((i+1:Nat):Int):=by omega
     have his:((i+1:Nat):Int)≤s.size:=by omega
     simp (maxSteps:=2000000) only[↓awA,awB,evA,envE,ofV,putE,listH,setRow,spl,oneP,guardB,frzA,mapO,allSc,closeA,shiftA,shiftR,flatA,flat0,scA,Row.len,fillW,rep,chunks,closed1,Value.oneCell',Nat.reduceAdd,reduceIte,reduceCtorEq,Nat.reduceLT,Nat.reduceLeDiff,Nat.reduceEqDiff,Nat.reduceSub,Nat.reduceMul,frz1,frzR,eq_self,and_self,tys,  hlt,e2,c,spN_lit,hll,hm,hwp,e3,hw,hex,hmm,hs1,hap,hse,hii,his]
     refine⟨Dr_of (by kernel_rfl), ?_⟩
     have hml:(L.set m (y++[x])).length=m+1:=by rw[List.length_set,hm]
     refine loopQ_next (i+1) ?_ ⟨hlt,by rw[hnext,hml];omega,by rw[hnext,hml];omega,fun z hz=> ?_⟩ (by omega)
     · simp[Weak,weakL,weakR,weakV,nilV,nilR,okA,listH,deads,pinR,isVarB,pin_pins,  hnext,hm]
     · rw[hnext] at hz
       rcases List.mem_or_eq_of_mem_set hz with hz|rfl
       · have:=hC z hz
         omega
       · rw[List.length_append]
         simp
         omega
 · have ht:s.data.toList.take i=s.data.toList:=List.take_of_length_le (by omega)
   have hll:=litS_len (s.data.toList.foldl stepP [[]])
   rw[ht]
   simp (maxSteps:=2000000) only[↓awA,awB,evA,envE,ofV,putE,listH,setRow,spl,oneP,guardB,frzA,mapO,allSc,closeA,shiftA,shiftR,flatA,flat0,scA,Row.len,fillW,rep,chunks,closed1,Value.oneCell',Nat.reduceAdd,reduceIte,reduceCtorEq,Nat.reduceLT,Nat.reduceLeDiff,Nat.reduceEqDiff,Nat.reduceSub,Nat.reduceMul,frz1,frzR,eq_self,and_self,tys,  hlt,hll,Tryz.results17]
end Go.Proofs.YtpjodoipceddpaaGreatDoor.Aw
namespace Go.Proofs.YtpjodoipceddpaaGreatDoor.Aw
open Go.RowKit Go.Lib Rc
set_option maxHeartbeats 8000000
set_option maxRecDepth 100000
abbrev G :=RecM×Bool
def cG (x:G):List AV:=[.sc (.int .u8 (x.1.op:Int)),.sc (.int .i64 x.1.at_),.sc (.string (bt x.1.name)),.sc (.int .i64 x.1.arg),if x.2 then .sc (.slice none 0 0) else .ro (x.1.list.map eI)]
def gOp (nums:List Int) (op:Nat):List G:=[(⟨op,0,[],0,nums⟩,false),(⟨op,0,[],0,[]⟩,true)]++(match nums with
 |[]=>[]
 |a::n=>[(⟨op,a,[],0,n⟩,false)])
def gKind (nums:List Int) (name:T) (arg:Int) (k:Int):List G:=(match nums with
 |[a]=>[(⟨8,a,[],0,[k]⟩,false)]
 |_=>[])++[(⟨8,0,name,arg,[k]⟩,false)]
def gAll (w:List T):List G:=(((List.range 11).map (· +3)).map (gOp (numsR (w.drop 1)))).flatten++(([1,2,3]:List Int).map (gKind (numsR (w.drop 1)) (nameR w) (argR (w.drop 1)))).flatten
theorem gAll_fst (w:List T):(gAll w).map (·.1)=guesses w:=by
 have h1:∀(nums:List Int) (op:Nat),(gOp nums op).map (·.1)=guessOp nums op:=fun nums op=>by
  unfold gOp guessOp
  cases nums<;>rfl
 have h2:∀(nums:List Int) (name:T) (arg k:Int),(gKind nums name arg k).map (·.1)=guessKind nums name arg k:=fun nums name arg k=>by
  unfold gKind guessKind
  match nums with
  |[]=>rfl
  |[a]=>rfl
  |a::b::l=>rfl
 have e1:∀(nums:List Int) (L:List Nat),(L.map (gOp nums)).map (List.map (·.1))=L.map (guessOp nums):=fun nums L=>by
  rw[List.map_map]
  exact List.map_congr_left fun o _=>h1 _ _
 have e2:∀(nums:List Int) (name:T) (arg:Int) (L:List Int),(L.map (gKind nums name arg)).map (List.map (·.1))=L.map (guessKind nums name arg):=fun nums name arg L=>by
  rw[List.map_map]
  exact List.map_congr_left fun k _=>h2 _ _ _ _
 unfold gAll guesses
 rw[List.map_append,List.map_flatten,List.map_flatten,e1,e2]
theorem gAll_nil {w:List T} {x:G} (h:x∈gAll w) (hx:x.2=true):x.1.list=[]:=by
 unfold gAll at h
 rw[List.mem_append,List.mem_flatten,List.mem_flatten] at h
 rcases h with ⟨L,hL,h⟩|⟨L,hL,h⟩
 · obtain⟨o, -,rfl⟩:=List.mem_map.1 hL
   unfold gOp at h
   split at h
   · simp only[List.append_nil,List.mem_cons,List.not_mem_nil,or_false] at h
     rcases h with rfl|rfl
     · cases hx
     · rfl
   · simp only[List.mem_append,List.mem_cons,List.not_mem_nil,or_false] at h
     rcases h with (rfl|rfl)|rfl
     · cases hx
     · rfl
     · cases hx
 · obtain⟨k, -,rfl⟩:=List.mem_map.1 hL
   unfold gKind at h
   rw[List.mem_append] at h
   rcases h with h|h
   · split at h
     · rw[List.mem_singleton] at h
       rw[h] at hx
       cases hx
     · cases h
   · rw[List.mem_singleton] at h
     rw[h] at hx
     cases hx
theorem nums_app (l:List T) (x:T):numsR (l++[x])=numsR l++(if(rpM x).2=0 then [(rpM x).1] else []):=by
 induction l with
 |nil=>
  rw[List.nil_append,numsR,numsR]
  split<;>rfl
 |cons y l ih=>
  rw[List.cons_append,numsR,numsR,ih]
  split<;>rfl
theorem nums_len :∀l:List T,(numsR l).length≤l.length
 |[]=>Nat.le_refl _
 |y::l=>by
  have:=nums_len l
  rw[numsR]
  split
  · rw[List.length_cons,List.length_cons];omega
  · rw[List.length_cons];omega
noncomputable def spG :Spec:=(spN.tell 34 (byE eS (fun s=>s.size≤1000000000) (fun s=>.tup [.sc (.int .i64 (rpM s.data.toList).1),.sc (.int .i64 (rpM s.data.toList).2)]))).lits
theorem spG_at {t:T}:spG.call 34 [.sc (.string (bt t))]=some ((bt t).size≤1000000000,.tup [.sc (.int .i64 (rpM t).1),.sc (.int .i64 (rpM t).2)],[]):=by
 unfold spG
 rw[lits_call,tell_same]
 have:=byE_eq (pre:=fun s:ByteArray=>s.size≤1000000000) (r:=fun s=>AV.tup [.sc (.int .i64 (rpM s.data.toList).1),.sc (.int .i64 (rpM s.data.toList).2)]) (fun _ _=>eS_inj) (bt t)
 rw[list_bt] at this
 exact this
theorem spG_ok (w:World) {fp:Nat→Prop}:SpecOk Tryz.prog spG w fp:=
 lits_ok<|tell_ok (spN_ok w) (enters_of' Tryz.func34 (by kernel_rfl)) (byE_ok fun a h w _=>parse6_con a h w)
theorem spG_lit :(spG.lit=true)=True:=eq_true rfl
theorem spG_pins :(spG.pins=0)=True:=eq_true rfl
def litG (l:List G):List (List AV):=l.map cG
theorem litG_app (l m:List G):litG l++litG m=litG (l++m):=by unfold litG;rw[List.map_append]
theorem litG_len (l:List G):(litG l).length=l.length:=by unfold litG;rw[List.length_map]
def wds (W:List T) (i:Nat):List T:=(W.take i).drop 1
def gO (N:List Int) (o:Nat):List G:=(((List.range (o - 3)).map (· +3)).map (gOp N)).flatten
theorem gO_next (N:List Int) {o:Nat} (h:3≤o):gO N (o+1)=gO N o++gOp N o:=by
 unfold gO
 rw[show o+1 - 3=(o - 3)+1 by omega,List.range_succ,List.map_append,List.map_append,List.flatten_append]
 simp only[List.map_cons,List.map_nil,List.flatten_cons,List.flatten_nil,List.append_nil]
 rw[show o - 3+3=o by omega]
theorem gOp_len (N:List Int) (o:Nat):(gOp N o).length≤3:=by
 unfold gOp
 cases N<;>simp
theorem gO_len (N:List Int):∀m:Nat,(gO N (3+m)).length≤3*m
 |0=>by simp[gO]
 |m+1=>by
  rw[show 3+(m+1)=(3+m)+1 by omega,gO_next N (by omega),List.length_append]
  have:=gO_len N m
  have:=gOp_len N (3+m)
  omega
def gK (N:List Int) (nm:T) (ar:Int) (k:Nat):List G:=gO N 14++(((([1,2,3]:List Int).take (k - 1)).map (gKind N nm ar))).flatten
theorem gK_next (N:List Int) (nm:T) (ar:Int) {k:Nat} (h1:1≤k) (h2:k≤3):gK N nm ar (k+1)=gK N nm ar k++gKind N nm ar (k:Int):=by
 unfold gK
 have:k=1∨k=2∨k=3:=by omega
 rcases this with rfl|rfl|rfl<;>simp
theorem gKind_len (N:List Int) (nm:T) (ar k:Int):(gKind N nm ar k).length≤2:=by
 unfold gKind
 match N with
 |[]=>simp
 |[a]=>simp
 |a::b::l=>simp
theorem gK_len (N:List Int) (nm:T) (ar:Int) (k:Nat) (h1:1≤k) (h2:k≤4):(gK N nm ar k).length≤50:=by
 have h0:=gO_len N 11
 have hA:(gK N nm ar 1).length≤33:=by unfold gK;simpa using h0
 have step:∀j,1≤j→j≤3→(gK N nm ar (j+1)).length≤(gK N nm ar j).length+2:=fun j a b=>by
  rw[gK_next N nm ar a b,List.length_append]
  have:=gKind_len N nm ar (j:Int)
  omega
 have a1:(gK N nm ar 2).length≤(gK N nm ar 1).length+2:=step 1 (by omega) (by omega)
 have a2:(gK N nm ar 3).length≤(gK N nm ar 2).length+2:=step 2 (by omega) (by omega)
 have a3:(gK N nm ar 4).length≤(gK N nm ar 3).length+2:=step 3 (by omega) (by omega)
 have:k=1∨k=2∨k=3∨k=4:=by omega
 rcases this with rfl|rfl|rfl|rfl<;>omega
theorem guesses_con (W:List T) (hW:W.length≤2000000) (hs:∀x∈W,x.length≤2000000) (w:World):ConAt Tryz.prog w 16 [.ro (litS W)] (.ro (litG (gAll W))) []:=by
 refine con_of_aw (sp:=spG) (Φ:=fun _=>True) [(10,frzM [0])] (fun w _=>spG_ok w) (by kernel_rfl) Tryz.func16 rfl ?_ w trivial
 intro hLen
 simp only[Tryz.ntmps16,List.length_cons,List.length_nil,Nat.reduceAdd,Nat.reduceSub,List.replicate_succ,List.replicate_zero,List.cons_append,List.nil_append]
 have hR:=Tryz.results16
 have hll:=litS_len W
 have h01:((1:Nat):Int)=1:=rfl
 simp (maxSteps:=2000000) only[↓awA,awB,evA,envE,ofV,putE,listH,setRow,spl,oneP,guardB,frzA,mapO,allSc,closeA,shiftA,shiftR,flatA,flat0,scA,Row.len,fillW,rep,chunks,closed1,Value.oneCell',Nat.reduceAdd,reduceIte,reduceCtorEq,Nat.reduceLT,Nat.reduceLeDiff,Nat.reduceEqDiff,Nat.reduceSub,Nat.reduceMul,frz1,frzR,eq_self,and_self,tys,  hR]
 refine aw_loop (fun i:Nat=>[.ro (litS W),.dead,.dead,.sl 0 (numsR (wds W i)).length,.sc (.int .i64 (argR (wds W i))),.sc (.int .i64 (i:Int))]++deads 83) (fun i=>[.lst 1 ((numsR (wds W i)).map eI) 3])
  (fun i=>1≤i∧(i≤W.length∨i=1)) (fun i=>W.length+1 - i) 1 ?_ ⟨Nat.le_refl _,.inr rfl⟩ ?_ (fun _ _=>by rw[show spG.pins=0 from rfl];trivial)
 · have h0:wds W 1=[]:=by cases W<;>rfl
   simp[Weak,weakL,weakR,weakV,nilV,nilR,okA,listH,deads,pinR,isVarB,pin_pins,  h0,numsR,argR]
 rintro i ⟨hi1,hi2⟩
 simp only[deads,List.replicate_succ,List.replicate_zero,List.cons_append,List.nil_append]
 by_cases hlt:i<W.length
 · obtain⟨x,hx⟩:∃x,W[i]? =some x:=⟨_,List.getElem?_eq_getElem hlt⟩
   have e2:=litS_at hx
   have hw:=wr_lt hlt (by omega)
   have hxs:(bt x).size≤1000000000:=by rw[size_bt];have:=hs x (List.mem_of_getElem? hx);omega
   have hnx:wds W (i+1)=wds W i++[x]:=by
    unfold wds
    rw[take_at hx,List.drop_append_of_le_length (by rw[List.length_take];omega)]
   have hna:=nums_app (wds W i) x
   rw[←hnx] at hna
   cases hc:((rpM x).2==0)
   · have hc2:¬(rpM x).2=0:=beq_eq_false_iff_ne.1 hc
     rw[if_neg hc2,List.append_nil] at hna
     have har:argR (wds W (i+1))=argR (wds W i):=by unfold argR;rw[hna]
     simp (maxSteps:=2000000) only[↓awA,awB,evA,envE,ofV,putE,listH,setRow,spl,oneP,guardB,frzA,mapO,allSc,closeA,shiftA,shiftR,flatA,flat0,scA,Row.len,fillW,rep,chunks,closed1,Value.oneCell',Nat.reduceAdd,reduceIte,reduceCtorEq,Nat.reduceLT,Nat.reduceLeDiff,Nat.reduceEqDiff,Nat.reduceSub,Nat.reduceMul,frz1,frzR,eq_self,and_self,tys,  hlt,hll,e2,spG_at,hxs,hc]
     refine loopQ_next (i+1) ?_ ⟨by omega,.inl hlt⟩ (by omega)
     simp[Weak,weakL,weakR,weakV,nilV,nilR,okA,listH,deads,pinR,isVarB,pin_pins,  hw,hna,har]
   · have hc2:(rpM x).2=0:=beq_iff_eq.1 hc
     rw[if_pos hc2] at hna
     have har:argR (wds W (i+1))=(rpM x).1:=by unfold argR;rw[hna];simp
     have hln:=nums_len (wds W i)
     have hln2:(wds W i).length≤W.length:=by unfold wds;rw[List.length_drop,List.length_take];omega
     have hbn:((numsR (wds W i)).length+1)*8≤140737488355328:=by omega
     have hsn:(numsR (wds W i)).map eI++[[.sc (.int .i64 (rpM x).1)]]=(numsR (wds W (i+1))).map eI:=by
      rw[hna,List.map_append]
      rfl
     have hl2:(numsR (wds W (i+1))).length=(numsR (wds W i)).length+1:=by rw[hna];simp
     simp (maxSteps:=2000000) only[↓awA,awB,evA,envE,ofV,putE,listH,setRow,spl,oneP,guardB,frzA,mapO,allSc,closeA,shiftA,shiftR,flatA,flat0,scA,Row.len,fillW,rep,chunks,closed1,Value.oneCell',Nat.reduceAdd,reduceIte,reduceCtorEq,Nat.reduceLT,Nat.reduceLeDiff,Nat.reduceEqDiff,Nat.reduceSub,Nat.reduceMul,frz1,frzR,eq_self,and_self,tys,  hlt,hll,e2,spG_at,hxs,hc,spG_lit,hbn,hsn]
     refine loopQ_next (i+1) ?_ ⟨by omega,.inl hlt⟩ (by omega)
     simp[Weak,weakL,weakR,weakV,nilV,nilR,okA,listH,deads,pinR,isVarB,pin_pins,  hw,har,hl2]
 have hti:wds W i=W.drop 1:=by
  unfold wds
  rcases hi2 with h|h
  · rw[List.take_of_length_le (by omega)]
  · subst h
    match W,hlt with
    |[],_=>rfl
    |[a],_=>rfl
    |a::b::l,hlt=>simp at hlt
 rw[hti]
 unfold gAll
 obtain⟨N,hN⟩:∃N,N=numsR (W.drop 1):=⟨_,rfl⟩
 obtain⟨ar,har⟩:∃ar,ar=argR (W.drop 1):=⟨_,rfl⟩
 rw[←hN,←har]
 have hname:∃nm,nm=nameR W∧True:=⟨_,rfl,trivial⟩
 obtain⟨nm,hnm, -⟩:=hname
 rw[←hnm]
 have hfin:(((List.range 11).map (· +3)).map (gOp N)).flatten++(([1,2,3]:List Int).map (gKind N nm ar)).flatten=gK N nm ar 4:=rfl
 rw[hfin]
 have hNl:N.length≤2000000:=by rw[hN];have:=nums_len (W.drop 1);rw[List.length_drop] at this;omega
 have e3:((3:Nat):Int)=3:=rfl
 have hnl:(N.map eI).length=N.length:=by rw[List.length_map]
 have hz:Int.toNat 0=0:=rfl
 have hz2:(0:Int)≤0:=Int.le_refl 0
 have hx2:Int.toNat 2=2:=rfl
 have hx3:(0:Int)≤2:=by decide
 have hg:∃bn:ByteArray,bn=bt nm:=⟨_,rfl⟩
 obtain⟨bn,hbn⟩:=hg
 by_cases h2:2<W.length
 · obtain⟨x,hx⟩:∃x,W[2]? =some x:=⟨_,List.getElem?_eq_getElem h2⟩
   have hxe:=litS_at hx
   have hnx:x=nm:=by
    rw[hnm]
    unfold nameR
    rw[if_pos h2,List.getD_eq_getElem?_getD,hx]
    rfl
   rw[hnx] at hxe
   have c2:decide ((W.length:Int)>2)=true:=decide_eq_true (by omega)
   have c3:(2:Int)<W.length:=by omega
   simp (maxSteps:=2000000) only[↓awA,awB,evA,envE,ofV,putE,listH,setRow,spl,oneP,guardB,frzA,mapO,allSc,closeA,shiftA,shiftR,flatA,flat0,scA,Row.len,fillW,rep,chunks,closed1,Value.oneCell',Nat.reduceAdd,reduceIte,reduceCtorEq,Nat.reduceLT,Nat.reduceLeDiff,Nat.reduceEqDiff,Nat.reduceSub,Nat.reduceMul,frz1,frzR,eq_self,and_self,tys,  hlt,hll,spG_pins,c2,c3,hx2,hx3,hxe,←hbn]
   refine aw_loop (fun o:Nat=>[.dead,.dead,.dead,.ro (N.map eI),.sc (.int .i64 ar),.dead,.dead,.dead,.sc (.string bn),.sl 1 (gO N o).length,.sc (.int .u8 (o:Int))]++deads 78) (fun o=>[.dead,.lst 5 (litG (gO N o)) 49])
    (fun o=>3≤o∧o≤14) (fun o=>14 - o) 3 ?_ ⟨by omega,by omega⟩ ?_ (fun _ _=>by rw[show spG.pins=0 from rfl];trivial)
   · simp[Weak,weakL,weakR,weakV,nilV,nilR,okA,listH,deads,pinR,isVarB,pin_pins,  gO,litG]
   rintro o ⟨ho1,ho2⟩
   simp only[deads,List.replicate_succ,List.replicate_zero,List.cons_append,List.nil_append]
   have hgl:=litG_len (gO N o)
   have ho3:(gO N o).length≤33:=by
    have:=gO_len N (o - 3)
    rw[show 3+(o - 3)=o by omega] at this
    omega
   by_cases h13:o≤13
   · have c13:decide ((o:Int)≤13)=true:=decide_eq_true (by omega)
     have hwo:IntKind.u8.wrap ((o:Int)+1)=((o+1:Nat):Int):=by rw[IntKind.wrap_u8];omega
     have hnext:=gO_next N ho1
     have hb1:((gO N o).length+2)*64≤140737488355328:=by omega
     obtain⟨M,hM⟩:∃M,M=gO N o++[((⟨o,0,[],0,N⟩:RecM),false),((⟨o,0,[],0,[]⟩:RecM),true)]:=⟨_,rfl⟩
     have hsn:litG (gO N o)++[[.sc (.int .u8 (o:Int)),.sc (.int .i64 0),.sc (.string ⟨#[]⟩),.sc (.int .i64 0),.ro (N.map eI)],[.sc (.int .u8 (o:Int)),.sc (.int .i64 0),.sc (.string ⟨#[]⟩),.sc (.int .i64 0),.sc (.slice none 0 0)]]=litG M:=by
      rw[hM,←litG_app]
      rfl
     have hMl:M.length=(gO N o).length+2:=by rw[hM,List.length_append];rfl
     have hgM:=litG_len M
     cases hcN:decide ((N.length:Int)>0)
     · have hN0:N=[]:=List.length_eq_zero_iff.1 (by have:=of_decide_eq_false hcN;omega)
       have hMn:M=gO N (o+1):=by rw[hM,hnext,hN0];rfl
       simp (maxSteps:=2000000) only[↓awA,awB,evA,envE,ofV,putE,listH,setRow,spl,oneP,guardB,frzA,mapO,allSc,closeA,shiftA,shiftR,flatA,flat0,scA,Row.len,fillW,rep,chunks,closed1,Value.oneCell',Nat.reduceAdd,reduceIte,reduceCtorEq,Nat.reduceLT,Nat.reduceLeDiff,Nat.reduceEqDiff,Nat.reduceSub,Nat.reduceMul,frz1,frzR,eq_self,and_self,tys,  c13,spG_lit,hgl,hsn,hb1,hnl,hcN]
       refine loopQ_next (o+1) ?_ ⟨by omega,by omega⟩ (by omega)
       simp[Weak,weakL,weakR,weakV,nilV,nilR,okA,listH,deads,pinR,isVarB,pin_pins,  hwo,hMn,hMl,litG_len]
     · obtain⟨a,n,hNc⟩:=List.exists_cons_of_ne_nil (l:=N) (fun h=>by rw[h] at hcN;simp at hcN)
       have hx0:N[0]? =some a:=by rw[hNc];rfl
       have e0:at_ (N.map eI) 0=eI a:=at_some hx0
       have hpos:(0:Int)<N.length:=of_decide_eq_true hcN
       have hw1:(∀e∈N.map eI,e.length=1)=True:=eq_true (fun e he=>by
        obtain⟨n, -,rfl⟩:=List.mem_map.1 he
        rfl)
       have h1a:(0:Int)≤1:=by decide
       have h1b:(1:Int)≤N.length:=by omega
       have hz1:Int.toNat 1=1:=rfl
       have hsl:List.drop 1 (List.take N.length (N.map eI))=n.map eI:=by
        rw[List.take_of_length_le (by rw[List.length_map];omega),hNc]
        rfl
       have hsn2:litG M++[[.sc (.int .u8 (o:Int)),.sc (.int .i64 a),.sc (.string ⟨#[]⟩),.sc (.int .i64 0),.ro (n.map eI)]]=litG (gO N (o+1)):=by
        rw[hnext,hM,←litG_app,←litG_app,hNc]
        unfold gOp
        rw[←litG_app,List.append_assoc]
        rfl
       have hl4:(gO N (o+1)).length=M.length+1:=by rw[hnext,hM,hNc,List.length_append,List.length_append];rfl
       have hb2:(M.length+1)*64≤140737488355328:=by omega
       simp (maxSteps:=2000000) only[↓awA,awB,evA,envE,ofV,putE,listH,setRow,spl,oneP,guardB,frzA,mapO,allSc,closeA,shiftA,shiftR,flatA,flat0,scA,Row.len,fillW,rep,chunks,closed1,Value.oneCell',Nat.reduceAdd,reduceIte,reduceCtorEq,Nat.reduceLT,Nat.reduceLeDiff,Nat.reduceEqDiff,Nat.reduceSub,Nat.reduceMul,frz1,frzR,eq_self,and_self,tys,  c13,spG_lit,hgl,hsn,hb1,hnl,hcN,hz,hz2,hpos,e0,eI,hw1,h1a,h1b,hz1,hsl,Option.map_none,hgM,hsn2,hb2]
       refine⟨Dr_of (by kernel_rfl),loopQ_next (o+1) ?_ ⟨by omega,by omega⟩ (by omega)⟩
       simp[Weak,weakL,weakR,weakV,nilV,nilR,okA,listH,deads,pinR,isVarB,pin_pins,  hwo,hl4,litG_len]
   · have ho:o=14:=by omega
     subst ho
     have c13:decide (((14:Nat):Int)≤13)=false:=rfl
     simp (maxSteps:=2000000) only[↓awA,awB,evA,envE,ofV,putE,listH,setRow,spl,oneP,guardB,frzA,mapO,allSc,closeA,shiftA,shiftR,flatA,flat0,scA,Row.len,fillW,rep,chunks,closed1,Value.oneCell',Nat.reduceAdd,reduceIte,reduceCtorEq,Nat.reduceLT,Nat.reduceLeDiff,Nat.reduceEqDiff,Nat.reduceSub,Nat.reduceMul,frz1,frzR,eq_self,and_self,tys,  c13]
     refine aw_loop (fun k:Nat=>[.dead,.dead,.dead,.ro (N.map eI),.sc (.int .i64 ar),.dead,.dead,.dead,.sc (.string bn),.sl 1 (gK N nm ar k).length,.dead,.sc (.int .i64 (k:Int))]++deads 77) (fun k=>[.dead,.lst 5 (litG (gK N nm ar k)) 49])
      (fun k=>1≤k∧k≤4) (fun k=>4 - k) 1 ?_ ⟨by omega,by omega⟩ ?_ (fun _ _=>by rw[show spG.pins=0 from rfl];trivial)
     · have hk1:gK N nm ar 1=gO N 14:=by unfold gK;simp
       simp[Weak,weakL,weakR,weakV,nilV,nilR,okA,listH,deads,pinR,isVarB,pin_pins,  hk1]
     rintro k ⟨hk1,hk2⟩
     simp only[deads,List.replicate_succ,List.replicate_zero,List.cons_append,List.nil_append]
     have hgl:=litG_len (gK N nm ar k)
     have hkl:=gK_len N nm ar k hk1 hk2
     by_cases h3:k≤3
     · have c3:decide ((k:Int)≤3)=true:=decide_eq_true (by omega)
       have hwk:IntKind.i64.wrap ((k:Int)+1)=((k+1:Nat):Int):=by rw[IntWalk.i64_in _ (by omega)];omega
       have hnext:=gK_next N nm ar hk1 h3
       have hN1:=len1_dec N
       obtain⟨y,hy⟩:∃y:G,y=((⟨8,0,nm,ar,[(k:Int)]⟩:RecM),false):=⟨_,rfl⟩
       have hye:[[AV.sc (.int .u8 8),.sc (.int .i64 0),.sc (.string bn),.sc (.int .i64 ar),.ro [[.sc (.int .i64 (k:Int))]]]]=litG [y]:=by
        rw[hbn,hy]
        rfl
       cases h1:decide (N.length=1)
       · have hgk:gKind N nm ar (k:Int)=[y]:=by
          rw[hy]
          have h1:=of_decide_eq_false h1
          unfold gKind
          match N,h1 with
          |[],_=>rfl
          |[a],h1=>exact absurd rfl h1
          |a::b::l,_=>rfl
         have hsn:litG (gK N nm ar k)++litG [y]=litG (gK N nm ar (k+1)):=by rw[litG_app,hnext,hgk]
         have hl2:(gK N nm ar (k+1)).length=(gK N nm ar k).length+1:=by rw[hnext,hgk,List.length_append];rfl
         have hb3:((gK N nm ar k).length+1)*64≤140737488355328:=by omega
         simp (maxSteps:=2000000) only[↓awA,awB,evA,envE,ofV,putE,listH,setRow,spl,oneP,guardB,frzA,mapO,allSc,closeA,shiftA,shiftR,flatA,flat0,scA,Row.len,fillW,rep,chunks,closed1,Value.oneCell',Nat.reduceAdd,reduceIte,reduceCtorEq,Nat.reduceLT,Nat.reduceLeDiff,Nat.reduceEqDiff,Nat.reduceSub,Nat.reduceMul,frz1,frzR,eq_self,and_self,tys,  c3,spG_lit,hgl,hnl,hN1,h1,hye,hsn,hb3]
         refine loopQ_next (k+1) ?_ ⟨by omega,by omega⟩ (by omega)
         simp[Weak,weakL,weakR,weakV,nilV,nilR,okA,listH,deads,pinR,isVarB,pin_pins,  hwk,hl2,litG_len]
       · obtain⟨a,hNa⟩:=List.length_eq_one_iff.1 (of_decide_eq_true h1)
         obtain⟨z,hzz⟩:∃z:G,z=((⟨8,a,[],0,[(k:Int)]⟩:RecM),false):=⟨_,rfl⟩
         have hze:[[AV.sc (.int .u8 8),.sc (.int .i64 a),.sc (.string ⟨#[]⟩),.sc (.int .i64 0),.ro [[.sc (.int .i64 (k:Int))]]]]=litG [z]:=by
          rw[hzz]
          rfl
         have hgk:gKind N nm ar (k:Int)=[z,y]:=by
          rw[hy,hzz,hNa]
          rfl
         have e0:at_ (N.map eI) 0=eI a:=by rw[hNa];rfl
         have hpos:(0:Int)<N.length:=by rw[hNa];simp
         obtain⟨M,hM⟩:∃M,M=gK N nm ar k++[z]:=⟨_,rfl⟩
         have hsn1:litG (gK N nm ar k)++litG [z]=litG M:=by rw[litG_app,hM]
         have hsn2:litG M++litG [y]=litG (gK N nm ar (k+1)):=by
          rw[litG_app,hnext,hgk,hM,List.append_assoc]
          rfl
         have hgM:=litG_len M
         have hMl:M.length=(gK N nm ar k).length+1:=by rw[hM,List.length_append];rfl
         have hl2:(gK N nm ar (k+1)).length=M.length+1:=by rw[hnext,hgk,hM,List.length_append,List.length_append];rfl
         have hb3:((gK N nm ar k).length+1)*64≤140737488355328:=by omega
         have hb4:(M.length+1)*64≤140737488355328:=by omega
         simp (maxSteps:=2000000) only[↓awA,awB,evA,envE,ofV,putE,listH,setRow,spl,oneP,guardB,frzA,mapO,allSc,closeA,shiftA,shiftR,flatA,flat0,scA,Row.len,fillW,rep,chunks,closed1,Value.oneCell',Nat.reduceAdd,reduceIte,reduceCtorEq,Nat.reduceLT,Nat.reduceLeDiff,Nat.reduceEqDiff,Nat.reduceSub,Nat.reduceMul,frz1,frzR,eq_self,and_self,tys,  c3,spG_lit,hgl,hnl,hN1,h1,hz,hz2,hpos,e0,eI,hye,hze,hsn1,hsn2,hgM,hb3,hb4]
         refine loopQ_next (k+1) ?_ ⟨by omega,by omega⟩ (by omega)
         simp[Weak,weakL,weakR,weakV,nilV,nilR,okA,listH,deads,pinR,isVarB,pin_pins,  hwk,hl2,litG_len]
     · have hk4:k=4:=by omega
       subst hk4
       have c3:decide (((4:Nat):Int)≤3)=false:=rfl
       simp (maxSteps:=2000000) only[↓awA,awB,evA,envE,ofV,putE,listH,setRow,spl,oneP,guardB,frzA,mapO,allSc,closeA,shiftA,shiftR,flatA,flat0,scA,Row.len,fillW,rep,chunks,closed1,Value.oneCell',Nat.reduceAdd,reduceIte,reduceCtorEq,Nat.reduceLT,Nat.reduceLeDiff,Nat.reduceEqDiff,Nat.reduceSub,Nat.reduceMul,frz1,frzR,eq_self,and_self,tys,  c3,hgl,hR]
 · have hne:nm=[]:=by rw[hnm];unfold nameR;rw[if_neg h2]
   have hb0:(⟨#[]⟩:ByteArray)=bn:=by rw[hbn,hne];rfl
   have c2:decide ((W.length:Int)>2)=false:=decide_eq_false (by omega)
   simp (maxSteps:=2000000) only[↓awA,awB,evA,envE,ofV,putE,listH,setRow,spl,oneP,guardB,frzA,mapO,allSc,closeA,shiftA,shiftR,flatA,flat0,scA,Row.len,fillW,rep,chunks,closed1,Value.oneCell',Nat.reduceAdd,reduceIte,reduceCtorEq,Nat.reduceLT,Nat.reduceLeDiff,Nat.reduceEqDiff,Nat.reduceSub,Nat.reduceMul,frz1,frzR,eq_self,and_self,tys,  hlt,hll,spG_pins,c2]
   refine aw_loop (fun o:Nat=>[.dead,.dead,.dead,.ro (N.map eI),.sc (.int .i64 ar),.dead,.dead,.dead,.sc (.string bn),.sl 1 (gO N o).length,.sc (.int .u8 (o:Int))]++deads 78) (fun o=>[.dead,.lst 5 (litG (gO N o)) 49])
    (fun o=>3≤o∧o≤14) (fun o=>14 - o) 3 ?_ ⟨by omega,by omega⟩ ?_ (fun _ _=>by rw[show spG.pins=0 from rfl];trivial)
   · simp[Weak,weakL,weakR,weakV,nilV,nilR,okA,listH,deads,pinR,isVarB,pin_pins,  gO,litG,hb0]
   rintro o ⟨ho1,ho2⟩
   simp only[deads,List.replicate_succ,List.replicate_zero,List.cons_append,List.nil_append]
   have hgl:=litG_len (gO N o)
   have ho3:(gO N o).length≤33:=by
    have:=gO_len N (o - 3)
    rw[show 3+(o - 3)=o by omega] at this
    omega
   by_cases h13:o≤13
   · have c13:decide ((o:Int)≤13)=true:=decide_eq_true (by omega)
     have hwo:IntKind.u8.wrap ((o:Int)+1)=((o+1:Nat):Int):=by rw[IntKind.wrap_u8];omega
     have hnext:=gO_next N ho1
     have hb1:((gO N o).length+2)*64≤140737488355328:=by omega
     obtain⟨M,hM⟩:∃M,M=gO N o++[((⟨o,0,[],0,N⟩:RecM),false),((⟨o,0,[],0,[]⟩:RecM),true)]:=⟨_,rfl⟩
     have hsn:litG (gO N o)++[[.sc (.int .u8 (o:Int)),.sc (.int .i64 0),.sc (.string ⟨#[]⟩),.sc (.int .i64 0),.ro (N.map eI)],[.sc (.int .u8 (o:Int)),.sc (.int .i64 0),.sc (.string ⟨#[]⟩),.sc (.int .i64 0),.sc (.slice none 0 0)]]=litG M:=by
      rw[hM,←litG_app]
      rfl
     have hMl:M.length=(gO N o).length+2:=by rw[hM,List.length_append];rfl
     have hgM:=litG_len M
     cases hcN:decide ((N.length:Int)>0)
     · have hN0:N=[]:=List.length_eq_zero_iff.1 (by have:=of_decide_eq_false hcN;omega)
       have hMn:M=gO N (o+1):=by rw[hM,hnext,hN0];rfl
       simp (maxSteps:=2000000) only[↓awA,awB,evA,envE,ofV,putE,listH,setRow,spl,oneP,guardB,frzA,mapO,allSc,closeA,shiftA,shiftR,flatA,flat0,scA,Row.len,fillW,rep,chunks,closed1,Value.oneCell',Nat.reduceAdd,reduceIte,reduceCtorEq,Nat.reduceLT,Nat.reduceLeDiff,Nat.reduceEqDiff,Nat.reduceSub,Nat.reduceMul,frz1,frzR,eq_self,and_self,tys,  c13,spG_lit,hgl,hsn,hb1,hnl,hcN]
       refine loopQ_next (o+1) ?_ ⟨by omega,by omega⟩ (by omega)
       simp[Weak,weakL,weakR,weakV,nilV,nilR,okA,listH,deads,pinR,isVarB,pin_pins,  hwo,hMn,hMl,litG_len]
     · obtain⟨a,n,hNc⟩:=List.exists_cons_of_ne_nil (l:=N) (fun h=>by rw[h] at hcN;simp at hcN)
       have hx0:N[0]? =some a:=by rw[hNc];rfl
       have e0:at_ (N.map eI) 0=eI a:=at_some hx0
       have hpos:(0:Int)<N.length:=of_decide_eq_true hcN
       have hw1:(∀e∈N.map eI,e.length=1)=True:=eq_true (fun e he=>by
        obtain⟨n, -,rfl⟩:=List.mem_map.1 he
        rfl)
       have h1a:(0:Int)≤1:=by decide
       have h1b:(1:Int)≤N.length:=by omega
       have hz1:Int.toNat 1=1:=rfl
       have hsl:List.drop 1 (List.take N.length (N.map eI))=n.map eI:=by
        rw[List.take_of_length_le (by rw[List.length_map];omega),hNc]
        rfl
       have hsn2:litG M++[[.sc (.int .u8 (o:Int)),.sc (.int .i64 a),.sc (.string ⟨#[]⟩),.sc (.int .i64 0),.ro (n.map eI)]]=litG (gO N (o+1)):=by
        rw[hnext,hM,←litG_app,←litG_app,hNc]
        unfold gOp
        rw[←litG_app,List.append_assoc]
        rfl
       have hl4:(gO N (o+1)).length=M.length+1:=by rw[hnext,hM,hNc,List.length_append,List.length_append];rfl
       have hb2:(M.length+1)*64≤140737488355328:=by omega
       simp (maxSteps:=2000000) only[↓awA,awB,evA,envE,ofV,putE,listH,setRow,spl,oneP,guardB,frzA,mapO,allSc,closeA,shiftA,shiftR,flatA,flat0,scA,Row.len,fillW,rep,chunks,closed1,Value.oneCell',Nat.reduceAdd,reduceIte,reduceCtorEq,Nat.reduceLT,Nat.reduceLeDiff,Nat.reduceEqDiff,Nat.reduceSub,Nat.reduceMul,frz1,frzR,eq_self,and_self,tys,  c13,spG_lit,hgl,hsn,hb1,hnl,hcN,hz,hz2,hpos,e0,eI,hw1,h1a,h1b,hz1,hsl,Option.map_none,hgM,hsn2,hb2]
       refine⟨Dr_of (by kernel_rfl),loopQ_next (o+1) ?_ ⟨by omega,by omega⟩ (by omega)⟩
       simp[Weak,weakL,weakR,weakV,nilV,nilR,okA,listH,deads,pinR,isVarB,pin_pins,  hwo,hl4,litG_len]
   · have ho:o=14:=by omega
     subst ho
     have c13:decide (((14:Nat):Int)≤13)=false:=rfl
     simp (maxSteps:=2000000) only[↓awA,awB,evA,envE,ofV,putE,listH,setRow,spl,oneP,guardB,frzA,mapO,allSc,closeA,shiftA,shiftR,flatA,flat0,scA,Row.len,fillW,rep,chunks,closed1,Value.oneCell',Nat.reduceAdd,reduceIte,reduceCtorEq,Nat.reduceLT,Nat.reduceLeDiff,Nat.reduceEqDiff,Nat.reduceSub,Nat.reduceMul,frz1,frzR,eq_self,and_self,tys,  c13]
     refine aw_loop (fun k:Nat=>[.dead,.dead,.dead,.ro (N.map eI),.sc (.int .i64 ar),.dead,.dead,.dead,.sc (.string bn),.sl 1 (gK N nm ar k).length,.dead,.sc (.int .i64 (k:Int))]++deads 77) (fun k=>[.dead,.lst 5 (litG (gK N nm ar k)) 49])
      (fun k=>1≤k∧k≤4) (fun k=>4 - k) 1 ?_ ⟨by omega,by omega⟩ ?_ (fun _ _=>by rw[show spG.pins=0 from rfl];trivial)
     · have hk1:gK N nm ar 1=gO N 14:=by unfold gK;simp
       simp[Weak,weakL,weakR,weakV,nilV,nilR,okA,listH,deads,pinR,isVarB,pin_pins,  hk1]
     rintro k ⟨hk1,hk2⟩
     simp only[deads,List.replicate_succ,List.replicate_zero,List.cons_append,List.nil_append]
     have hgl:=litG_len (gK N nm ar k)
     have hkl:=gK_len N nm ar k hk1 hk2
     by_cases h3:k≤3
     · have c3:decide ((k:Int)≤3)=true:=decide_eq_true (by omega)
       have hwk:IntKind.i64.wrap ((k:Int)+1)=((k+1:Nat):Int):=by rw[IntWalk.i64_in _ (by omega)];omega
       have hnext:=gK_next N nm ar hk1 h3
       have hN1:=len1_dec N
       obtain⟨y,hy⟩:∃y:G,y=((⟨8,0,nm,ar,[(k:Int)]⟩:RecM),false):=⟨_,rfl⟩
       have hye:[[AV.sc (.int .u8 8),.sc (.int .i64 0),.sc (.string bn),.sc (.int .i64 ar),.ro [[.sc (.int .i64 (k:Int))]]]]=litG [y]:=by
        rw[hbn,hy]
        rfl
       cases h1:decide (N.length=1)
       · have hgk:gKind N nm ar (k:Int)=[y]:=by
          rw[hy]
          have h1:=of_decide_eq_false h1
          unfold gKind
          match N,h1 with
          |[],_=>rfl
          |[a],h1=>exact absurd rfl h1
          |a::b::l,_=>rfl
         have hsn:litG (gK N nm ar k)++litG [y]=litG (gK N nm ar (k+1)):=by rw[litG_app,hnext,hgk]
         have hl2:(gK N nm ar (k+1)).length=(gK N nm ar k).length+1:=by rw[hnext,hgk,List.length_append];rfl
         have hb3:((gK N nm ar k).length+1)*64≤140737488355328:=by omega
         simp (maxSteps:=2000000) only[↓awA,awB,evA,envE,ofV,putE,listH,setRow,spl,oneP,guardB,frzA,mapO,allSc,closeA,shiftA,shiftR,flatA,flat0,scA,Row.len,fillW,rep,chunks,closed1,Value.oneCell',Nat.reduceAdd,reduceIte,reduceCtorEq,Nat.reduceLT,Nat.reduceLeDiff,Nat.reduceEqDiff,Nat.reduceSub,Nat.reduceMul,frz1,frzR,eq_self,and_self,tys,  c3,spG_lit,hgl,hnl,hN1,h1,hye,hsn,hb3]
         refine loopQ_next (k+1) ?_ ⟨by omega,by omega⟩ (by omega)
         simp[Weak,weakL,weakR,weakV,nilV,nilR,okA,listH,deads,pinR,isVarB,pin_pins,  hwk,hl2,litG_len]
       · obtain⟨a,hNa⟩:=List.length_eq_one_iff.1 (of_decide_eq_true h1)
         obtain⟨z,hzz⟩:∃z:G,z=((⟨8,a,[],0,[(k:Int)]⟩:RecM),false):=⟨_,rfl⟩
         have hze:[[AV.sc (.int .u8 8),.sc (.int .i64 a),.sc (.string ⟨#[]⟩),.sc (.int .i64 0),.ro [[.sc (.int .i64 (k:Int))]]]]=litG [z]:=by
          rw[hzz]
          rfl
         have hgk:gKind N nm ar (k:Int)=[z,y]:=by
          rw[hy,hzz,hNa]
          rfl
         have e0:at_ (N.map eI) 0=eI a:=by rw[hNa];rfl
         have hpos:(0:Int)<N.length:=by rw[hNa];simp
         obtain⟨M,hM⟩:∃M,M=gK N nm ar k++[z]:=⟨_,rfl⟩
         have hsn1:litG (gK N nm ar k)++litG [z]=litG M:=by rw[litG_app,hM]
         have hsn2:litG M++litG [y]=litG (gK N nm ar (k+1)):=by
          rw[litG_app,hnext,hgk,hM,List.append_assoc]
          rfl
         have hgM:=litG_len M
         have hMl:M.length=(gK N nm ar k).length+1:=by rw[hM,List.length_append];rfl
         have hl2:(gK N nm ar (k+1)).length=M.length+1:=by rw[hnext,hgk,hM,List.length_append,List.length_append];rfl
         have hb3:((gK N nm ar k).length+1)*64≤140737488355328:=by omega
         have hb4:(M.length+1)*64≤140737488355328:=by omega
         simp (maxSteps:=2000000) only[↓awA,awB,evA,envE,ofV,putE,listH,setRow,spl,oneP,guardB,frzA,mapO,allSc,closeA,shiftA,shiftR,flatA,flat0,scA,Row.len,fillW,rep,chunks,closed1,Value.oneCell',Nat.reduceAdd,reduceIte,reduceCtorEq,Nat.reduceLT,Nat.reduceLeDiff,Nat.reduceEqDiff,Nat.reduceSub,Nat.reduceMul,frz1,frzR,eq_self,and_self,tys,  c3,spG_lit,hgl,hnl,hN1,h1,hz,hz2,hpos,e0,eI,hye,hze,hsn1,hsn2,hgM,hb3,hb4]
         refine loopQ_next (k+1) ?_ ⟨by omega,by omega⟩ (by omega)
         simp[Weak,weakL,weakR,weakV,nilV,nilR,okA,listH,deads,pinR,isVarB,pin_pins,  hwk,hl2,litG_len]
     · have hk4:k=4:=by omega
       subst hk4
       have c3:decide (((4:Nat):Int)≤3)=false:=rfl
       simp (maxSteps:=2000000) only[↓awA,awB,evA,envE,ofV,putE,listH,setRow,spl,oneP,guardB,frzA,mapO,allSc,closeA,shiftA,shiftR,flatA,flat0,scA,Row.len,fillW,rep,chunks,closed1,Value.oneCell',Nat.reduceAdd,reduceIte,reduceCtorEq,Nat.reduceLT,Nat.reduceLeDiff,Nat.reduceEqDiff,Nat.reduceSub,Nat.reduceMul,frz1,frzR,eq_self,and_self,tys,  c3,hgl,hR]
end Go.Proofs.YtpjodoipceddpaaGreatDoor.Aw
