/- Traces: the chapter's examples (works), walked abstractly. -/
import Derived.Test.YtpjodoipceddpaaGreatDoorRcG
import Derived.Test.YtpjodoipceddpaaGreatDoorRcJ
import Derived.Test.YtpjodoipceddpaaGreatDoorRcK
import Derived.Test.YtpjodoipceddpaaGreatDoorRecC
namespace Go.Proofs.YtpjodoipceddpaaGreatDoor.Aw
open Go.RowKit Go.Lib Rc
set_option maxHeartbeats 8000000
set_option maxRecDepth 100000
theorem con_relax_arg {P:Program} {w:World} {f:FuncId} {r:AV} {rs:List Row} {l l':List (List AV)} (h:ConAt P w f [.ro l'] r rs) (hl:l'.length=l.length)
 (hc:∀(i:Nat) e e',l[i]? =some e→l'[i]? =some e'→e'.length=e.length∧∀(j:Nat) x x',e[j]? =some x→e'[j]? =some x'→x'=x∨(x=.sc (.slice none 0 0)∧x'=.ro [])):ConAt P w f [.ro l] r rs:=
 fun S vs hS hlen hv=>h S vs hS hlen (fun i x v hx hvi=>by
  match i with
  |0=>
   cases hx
   exact vc_relax (hv 0 _ v rfl hvi) hl hc
  |i+1=>simp at hx)
def g5 :List G:=[(⟨3,3,[],0,[]⟩,true),(⟨6,8,[],0,[2]⟩,false),(⟨8,0,[103,111],5,[2]⟩,false),(⟨9,0,[],0,[2,5]⟩,false),(⟨12,0,[],0,[1, -1]⟩,false)]
def X5 :List RecM:=[⟨3,3,[],0,[]⟩,⟨6,8,[],0,[2]⟩,⟨8,0,[103,111],5,[2]⟩,⟨9,0,[],0,[2,5]⟩,⟨12,0,[],0,[1, -1]⟩]
def s5 :T:=[101,120,105,116,32,51,10,108,111,111,107,32,56,32,50,10,101,118,101,110,116,32,99,97,108,108,32,103,111,32,53,10,102,105,114,101,32,50,32,53,10,114,101,115,116,32,49,32,45,49,10]
theorem put5 :putA [] X5=(s5,0):=by kernel_rfl
theorem get5 :getM (lineP nmB) s5=(X5,0,0):=by kernel_rfl
theorem get6 :getM (lineP nmB) [101,120,105,116,32,51,10,101,120,105,116,32,45,49,10]=([],7,320):=by kernel_rfl
theorem get7 :getM (lineP nmB) [100,114,111,112]=([],0,320):=by kernel_rfl
theorem g5_relax {P:Program} {w:World} {f:FuncId} {r:AV} {rs:List Row} (h:ConAt P w f [.ro (cRl X5)] r rs):ConAt P w f [.ro (litG g5)] r rs:=by
 refine con_relax_arg h rfl (fun i e e' he he'=> ?_)
 match i with
 |0=>
  cases he;cases he'
  refine⟨rfl,fun j x x' hx hx'=> ?_⟩
  match j with
  |0|1|2|3=>cases hx;cases hx';exact .inl rfl
  |4=>cases hx;cases hx';exact .inr ⟨rfl,rfl⟩
  |j+5=>simp[cG] at hx
 |1=>cases he;cases he';exact⟨rfl,fun j x x' hx hx'=>.inl (Option.some.inj (hx'.symm.trans hx))⟩
 |2=>cases he;cases he';exact⟨rfl,fun j x x' hx hx'=>.inl (Option.some.inj (hx'.symm.trans hx))⟩
 |3=>cases he;cases he';exact⟨rfl,fun j x x' hx hx'=>.inl (Option.some.inj (hx'.symm.trans hx))⟩
 |4=>cases he;cases he';exact⟨rfl,fun j x x' hx hx'=>.inl (Option.some.inj (hx'.symm.trans hx))⟩
 |i+5=>simp[litG,g5] at he
theorem X5_sml :Sml X5:=⟨by decide,by decide⟩
theorem X5_shr :∀r∈X5,Shr r:=by
 intro r hr
 simp only[X5,List.mem_cons,List.not_mem_nil,or_false] at hr
 rcases hr with rfl|rfl|rfl|rfl|rfl<;>exact⟨by decide,by decide,⟨by decide,by decide⟩⟩
theorem tput_con (X:List RecM) (hX:X.length≤1000) (hr:∀r∈X,Shr r) (w:World) (hst:TrSt w):ConAt Tryz.prog w 13 [.ro (cRl X)] (.tup [.sc (.string (bt (putA [] X).1)),.sc (.int .i64 (putA [] X).2)]) []:=by
 refine con_tup fun S vs hS hlen hv=> ?_
 match vs,hlen with
 |[u],_=>
  refine(put_any X hX hr w hst S u hS (hv 0 _ u rfl rfl)).mono fun e w' ⟨he,hf⟩=>⟨[_,_],fun _=>False,he,fun k hk=>hk.elim,rfl,fun i x v h1 h2=> ?_,hf⟩
  match i with
  |0=>cases h1;cases h2;exact .sc _
  |1=>cases h1;cases h2;exact .sc _
  |i+2=>simp at h1
def eR5 :Bool→List AV
 |true=>[.ro (litG g5)]
 |false=>[.ro (cRl X5)]
theorem eR5_inj (x y:Bool) (h:eR5 x=eR5 y):x=y:=by
 cases x<;>cases y
 · rfl
 · simp[eR5,litG,g5,cRl,X5,cG,cR] at h
 · simp[eR5,litG,g5,cRl,X5,cG,cR] at h
 · rfl
theorem restsX5 :restsM X5=[[1, -1]]:=by kernel_rfl
theorem stepsX5 :stepsM X5=2:=by kernel_rfl
noncomputable def spW5 :Spec:=((((((spN.tell 13 (byE (fun _:Unit=>[.ro (litG g5)]) (fun _=>True) (fun _=>.tup [.sc (.string (bt s5)),.sc (.int .i64 0)]))).tell
 7 (byE eS (fun s=>s.size≤900) (fun s=>.tup [.ro (cRl (getM (lineP nmB) s.data.toList).1),.sc (.int .i64 (getM (lineP nmB) s.data.toList).2.1),.sc (.int .i64 (getM (lineP nmB) s.data.toList).2.2)]))).tell
 14 (byE (fun _:Unit=>[.ro (litG g5)]) (fun _=>True) (fun _=>.ro (cLs [[1, -1]])))).tell
 15 (byE (fun _:Unit=>[.ro (litG g5)]) (fun _=>True) (fun _=>.sc (.int .i64 2)))).tell
 9 (byE eR5 (fun _=>True) (fun _=>.ro (cRl X5)))).tell
 8 (byE (fun _:Unit=>[.ro (cRl X5),.ro (cRl X5)]) (fun _=>True) (fun _=>.sc (.bool true)))).lits
theorem spW5_ok (w:World) (hst:TrS w):SpecOk Tryz.prog spW5 w (fun _=>False):=
 lits_ok (tell_ok (tell_ok (tell_ok (tell_ok (tell_ok (tell_ok (spN_ok w)
  (enters_of' Tryz.func13 (by kernel_rfl)) (byE_ok fun _ _ w' hf=>g5_relax (by have:=tput_con X5 (by decide) X5_shr w' (hst.fr hf).1;rw[put5] at this;exact this)))
  (enters_of' Tryz.func7 (by kernel_rfl)) (byE_ok fun s h w' hf=>get_con s (.inl h) w' (hst.fr hf)))
  (enters_of' Tryz.func14 (by kernel_rfl)) (byE_ok fun _ _ w' _=>g5_relax (by have:=rests_con X5 X5_sml (by decide) w';rw[restsX5] at this;exact this)))
  (enters_of' Tryz.func15 (by kernel_rfl)) (byE_ok fun _ _ w' _=>g5_relax (by have:=steps_con X5 (by decide) w';rw[stepsX5] at this;exact this)))
  (enters_of' Tryz.func9 (by kernel_rfl)) (byE_ok fun b _ w' _=>by cases b<;>first|exact ref31_con X5 X5_sml w'|exact g5_relax (ref31_con X5 X5_sml w')))
  (enters_of' Tryz.func8 (by kernel_rfl)) (byE_ok fun _ _ w' _=>same31_con X5 X5_sml w'))
theorem unit_inj {α:Type} {f:Unit→α} (x y:Unit) (_:f x=f y):x=y:=rfl
theorem spW5_lit :(spW5.lit=true)=True:=eq_true rfl
theorem spW5_pins :(spW5.pins=0)=True:=eq_true rfl
theorem spW5_put {N:List (List AV)} (hN:N=litG g5):spW5.call 13 [.ro N]=some (True,.tup [.sc (.string (bt s5)),.sc (.int .i64 0)],[]):=by
 subst hN
 unfold spW5
 rw[lits_call,tell_ne (by rfl),tell_ne (by rfl),tell_ne (by rfl),tell_ne (by rfl),tell_ne (by rfl),tell_same]
 exact byE_eq unit_inj ()
theorem spW5_get {s:ByteArray}:spW5.call 7 [.sc (.string s)]=some (s.size≤900,.tup [.ro (cRl (getM (lineP nmB) s.data.toList).1),.sc (.int .i64 (getM (lineP nmB) s.data.toList).2.1),.sc (.int .i64 (getM (lineP nmB) s.data.toList).2.2)],[]):=by
 unfold spW5
 rw[lits_call,tell_ne (by rfl),tell_ne (by rfl),tell_ne (by rfl),tell_ne (by rfl),tell_same]
 exact byE_eq (fun _ _=>eS_inj) s
theorem spW5_get5 :spW5.call 7 [.sc (.string (bt s5))]=some (True,.tup [.ro (cRl X5),.sc (.int .i64 0),.sc (.int .i64 0)],[]):=by
 rw[spW5_get,list_bt,get5]
 exact congrArg (fun p=>some (p,_,_)) (eq_true (by rw[size_bt];decide))
theorem spW5_get6 :spW5.call 7 [.sc (.string ⟨#[101,120,105,116,32,51,10,101,120,105,116,32,45,49,10]⟩)]=some (True,.tup [.ro [],.sc (.int .i64 7),.sc (.int .i64 320)],[]):=by
 rw[spW5_get,show (⟨#[101,120,105,116,32,51,10,101,120,105,116,32,45,49,10]⟩:ByteArray).data.toList=[101,120,105,116,32,51,10,101,120,105,116,32,45,49,10] from rfl,get6]
 exact congrArg (fun p=>some (p,_,_)) (eq_true (by decide))
theorem spW5_get7 :spW5.call 7 [.sc (.string ⟨#[100,114,111,112]⟩)]=some (True,.tup [.ro [],.sc (.int .i64 0),.sc (.int .i64 320)],[]):=by
 rw[spW5_get,show (⟨#[100,114,111,112]⟩:ByteArray).data.toList=[100,114,111,112] from rfl,get7]
 exact congrArg (fun p=>some (p,_,_)) (eq_true (by decide))
theorem spW5_rests {N:List (List AV)} (hN:N=litG g5):spW5.call 14 [.ro N]=some (True,.ro (cLs [[1, -1]]),[]):=by
 subst hN
 unfold spW5
 rw[lits_call,tell_ne (by rfl),tell_ne (by rfl),tell_ne (by rfl),tell_same]
 exact byE_eq unit_inj ()
theorem spW5_steps {N:List (List AV)} (hN:N=litG g5):spW5.call 15 [.ro N]=some (True,.sc (.int .i64 2),[]):=by
 subst hN
 unfold spW5
 rw[lits_call,tell_ne (by rfl),tell_ne (by rfl),tell_same]
 exact byE_eq unit_inj ()
theorem spW5_ref {N:List (List AV)} (hN:N=litG g5):spW5.call 9 [.ro N]=some (True,.ro (cRl X5),[]):=by
 subst hN
 unfold spW5
 rw[lits_call,tell_ne (by rfl),tell_same]
 exact byE_eq eR5_inj true
theorem spW5_ref2 :spW5.call 9 [.ro (cRl X5)]=some (True,.ro (cRl X5),[]):=by
 unfold spW5
 rw[lits_call,tell_ne (by rfl),tell_same]
 exact byE_eq eR5_inj false
theorem spW5_same :spW5.call 8 [.ro (cRl X5),.ro (cRl X5)]=some (True,.sc (.bool true),[]):=by
 unfold spW5
 rw[lits_call,tell_same]
 exact byE_eq unit_inj ()
theorem works31_con (w:World) (hst:TrS w):ConAt Tryz.prog w 5 [] (.sc (.bool true)) []:=by
 refine con_of_aw (sp:=spW5) (Φ:=TrS) [] (fun w h=>spW5_ok w h) (by kernel_rfl) Tryz.func5 rfl ?_ w hst
 intro hLen
 simp only[Tryz.ntmps5,List.length_cons,List.length_nil,Nat.reduceAdd,Nat.reduceSub,List.replicate_succ,List.replicate_zero,List.cons_append,List.nil_append]
 have hR:=Tryz.results5
 obtain⟨s,hs⟩:∃s,s=bt s5:=⟨_,rfl⟩
 have hd:decide (s=⟨#[101,120,105,116,32,51,10,108,111,111,107,32,56,32,50,10,101,118,101,110,116,32,99,97,108,108,32,103,111,32,53,10,102,105,114,101,32,50,32,53,10,114,101,115,116,32,49,32,45,49,10]⟩)=true:=by rw[hs];exact decide_eq_true rfl
 have hz:Int.toNat 0=0:=rfl
 have hz2:((0:Int)≤0)=True:=eq_true (Int.le_refl 0)
 obtain⟨N,hN⟩:∃N,N=litG g5:=⟨_,rfl⟩
 have hlit:[[.sc (.int .u8 3),.sc (.int .i64 3),.sc (.string ⟨#[]⟩),.sc (.int .i64 0),.sc (.slice none 0 0)],
 [.sc (.int .u8 6),.sc (.int .i64 8),.sc (.string ⟨#[]⟩),.sc (.int .i64 0),.ro [[.sc (.int .i64 2)]]],
 [.sc (.int .u8 8),.sc (.int .i64 0),.sc (.string ⟨#[103,111]⟩),.sc (.int .i64 5),.ro [[.sc (.int .i64 2)]]],
 [.sc (.int .u8 9),.sc (.int .i64 0),.sc (.string ⟨#[]⟩),.sc (.int .i64 0),.ro [[.sc (.int .i64 2)],[.sc (.int .i64 5)]]],
 [.sc (.int .u8 12),.sc (.int .i64 0),.sc (.string ⟨#[]⟩),.sc (.int .i64 0),.ro [[.sc (.int .i64 1)],[.sc (.int .i64 (-1))]]]]=N:=by rw[hN];rfl
 obtain⟨L,hL⟩:∃L,L=cLs [[1, -1]]:=⟨_,rfl⟩
 obtain⟨q,hq⟩:∃q:List (List AV),q=([1, -1]:List Int).map eI:=⟨_,rfl⟩
 have l1:(L.length:Int)=1:=by rw[hL];rfl
 have l2:((0:Int)<L.length)=True:=eq_true (by rw[l1];decide)
 have l3:at_ L 0=[.ro q]:=by rw[hL,hq];rfl
 have l4:(q.length:Int)=2:=by rw[hq];rfl
 have p1:=spW5_put hN
 have p2:=spW5_get5
 have p3:=spW5_rests hN
 have p4:=spW5_steps hN
 have p5:=spW5_ref hN
 rw[←hs] at p1 p2
 rw[←hL] at p3
 clear hs hN hL hq
 simp (maxSteps:=2000000) only[↓awA,awB,evA,envE,ofV,putE,listH,setRow,spl,oneP,guardB,frzA,mapO,allSc,closeA,shiftA,shiftR,flatA,flat0,scA,Row.len,fillW,rep,chunks,closed1,Value.oneCell',Nat.reduceAdd,reduceIte,reduceCtorEq,Nat.reduceLT,Nat.reduceLeDiff,Nat.reduceEqDiff,Nat.reduceSub,Nat.reduceMul,frz1,frzR,eq_self,and_self,tys,  hR,spW5_lit,spW5_pins,hlit,p1,p2,spW5_get6,spW5_get7,p3,p4,p5,spW5_ref2,spW5_same,hd,hz,hz2,l1,l2,l3,l4]
 decide
end Go.Proofs.YtpjodoipceddpaaGreatDoor.Aw
