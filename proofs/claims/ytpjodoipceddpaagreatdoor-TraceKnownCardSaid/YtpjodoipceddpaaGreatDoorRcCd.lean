/- Traces: numbers that are read, to the program. -/
import Derived.Test.YtpjodoipceddpaaGreatDoorRcAb
import Derived.Test.YtpjodoipceddpaaGreatDoorRecD
import Derived.Lib.AtoiErrMem
import Derived.Test.YtpjodoipceddpaaGreatDoorRecZc
namespace Go.Proofs.YtpjodoipceddpaaGreatDoor.Aw
open Go.RowKit Go.Lib Rc
set_option maxHeartbeats 8000000
set_option maxRecDepth 100000
theorem uint_nosyn (M:Nat):∀(l:T) (acc:Nat),l.all isD=true→parseUintM M acc l≠NumEnd.syntax
 |[],acc,_=>by rw[parseUintM];exact fun h=>by cases h
 |c::l,acc,h=>by
  rw[List.all_cons,Bool.and_eq_true] at h
  have hc:=h.1
  unfold isD at hc
  simp only[Bool.and_eq_true,decide_eq_true_eq] at hc
  rw[parseUintM,if_pos hc]
  split
  · exact fun h=>by cases h
  · split
    · exact fun h=>by cases h
    · exact uint_nosyn M l _ h.2
theorem wr_nosyn {s:T} (h:wrB s=true):parseIntB 64 s≠NumEnd.syntax:=by
 unfold wrB at h
 rw[Bool.and_eq_true,Bool.or_eq_true,Bool.and_eq_true,decide_eq_true_eq,decide_eq_true_eq] at h
 obtain⟨h1,h2⟩:=h
 have hne:dgs s≠[]:=by
  rcases h2 with h2|h2
  · rw[h2];simp[dgs]
  · exact h2.1
 cases s with
 |nil=>exact absurd rfl hne
 |cons c r=>
  have hb:(if c.toNat=43∨c.toNat=45 then r else c::r)=dgs (c::r):=by
   by_cases h45:c=45
   · subst h45;rfl
   · have hd:dgs (c::r)=c::r:=by
      unfold dgs
      split
      · rename_i h2;cases h2;exact absurd rfl h45
      · rfl
     rw[hd] at h1⊢
     rw[List.all_cons,Bool.and_eq_true] at h1
     have hc:=h1.1
     unfold isD at hc
     simp only[Bool.and_eq_true,decide_eq_true_eq] at hc
     rw[if_neg (by omega)]
  have hp:parseUintB 64 (dgs (c::r))≠NumEnd.syntax:=by
   unfold parseUintB
   rw[if_neg hne]
   exact uint_nosyn _ _ _ h1
  unfold parseIntB
  simp only
  rw[hb]
  split
  · rename_i e;exact absurd e hp
  · exact fun h=>by cases h
  · split
    · exact fun h=>by cases h
    · split
      · exact fun h=>by cases h
      · exact fun h=>by cases h
theorem fr_conv {w w':World} {e:TypeId} (h:w'=w∨∃t,w'=Lib.bytesWorld w e t):Fr (fun _=>False) w w':=by
 rcases h with rfl|⟨t,rfl⟩
 · exact Fr.refl _ _
 · exact Fr.of_below (bytesWorld_below w e t) (fun k h1 h2=>absurd h1 (by omega))
theorem parse_any (s:ByteArray) (hs:s.size≤281474976710656) (w:World) (he:ErrR w):Calls Tryz.prog 63 #[.string s] w fun e w'=>e=.returned (.tuple #[.int .i64 (ppM s.data.toList).1,.int .i64 (ppM s.data.toList).2])∧Fr (fun _=>False) w w':=by
 have hW:∀w,Calls Tryz.prog 80 #[.string s] w fun e w'=>e=.returned (.bool (wrB s.data.toList))∧Fr (fun _=>False) w w':=fun w=>calls_sc (vl:=[.string s]) (written_con s (by omega) w)
 have hWw:=hW w
 obtain⟨r1,hr1⟩:∃r,(ppM s.data.toList).1=r:=⟨_,rfl⟩
 obtain⟨r2,hr2⟩:∃r,(ppM s.data.toList).2=r:=⟨_,rfl⟩
 rw[hr1,hr2]
 unfold ppM at hr1 hr2
 cases hwr:wrB s.data.toList
 · rw[hwr] at hr1 hr2 hWw
   simp only[Bool.false_eq_true,if_false] at hr1 hr2
   subst hr1 hr2
   have HW:=hide hWw
   clear hW hWw
   go_enter Tryz.func63,Tryz.ntmps63
   go_wp2_with (go_at_call 80;refine(HW.out).mono ?_;rintro e w' ⟨rfl,hf⟩)
   go_returns
   exact⟨rfl,hf⟩
 · rw[hwr] at hr1 hr2 hWw
   rw[if_pos rfl] at hr1 hr2
   have HW:=hide hWw
   clear hW hWw
   obtain⟨b,hb⟩:=he
   have hq:(∃v,parseIntB 64 s.data.toList=.ok v)∨parseIntB 64 s.data.toList=.range:=by
    cases hp:parseIntB 64 s.data.toList<;>first|exact .inl ⟨_,rfl⟩|exact .inr rfl|exact absurd hp (wr_nosyn hwr)
   rcases hq with ⟨v,hp⟩|hp
   · rw[hp] at hr1 hr2
     simp only at hr1 hr2
     subst hr1 hr2
     have HP:=hide (fun w=>Tryz.strconv_ParseInt_10_at64_ok s (by omega) v hp w)
     have HE:=hide (hb)
     have HI:=hide (fun w=>is_nil b w)
     go_enter Tryz.func63,Tryz.ntmps63
     go_wp2_with (first
      |(go_at_call 80;refine(HW.out).mono ?_;rintro e w' ⟨rfl,hf⟩)
      |(go_at_call 81;refine(HP.out _).mono ?_;rintro e w2 ⟨rfl,hf2⟩;have hf3:Fr (fun _=>False) w w2:=hf.then_ (fr_conv hf2) (fun k h1 h2=>h2);have hc:=cell_fr HE.out hf3)
      |(go_at_call 82;refine(HI.out _).mono ?_;rintro e w3 ⟨rfl,rfl⟩))
     go_returns
     exact⟨rfl,hf3⟩
   · rw[hp] at hr1 hr2
     simp only at hr1 hr2
     subst hr1 hr2
     have HP:=hide (fun(w:World) hv=>Tryz.strconv_ParseInt_10_at64_range s (by omega) hp (.iface 166 (.pointer (some b))) w hv (.inr ⟨_,_,rfl⟩))
     have HE:=hide (hb)
     have HI:=hide (fun N w h=>is_num N (.string ⟨#[80,97,114,115,101,73,110,116]⟩) (.string s) b w h)
     go_enter Tryz.func63,Tryz.ntmps63
     go_wp2_with (first
      |(go_at_call 80;refine(HW.out).mono ?_;rintro e w' ⟨rfl,hf⟩)
      |(go_at_call 81;refine(HP.out _ (cell_fr HE.out hf)).mono ?_;rintro e w2 ⟨N,rfl,hN,hN2,hf2⟩;have hf3:Fr (fun _=>False) w w2:=hf.then_ (Fr.of_below hf2 (fun k h1 h2=>absurd h1 (by omega))) (fun k h1 h2=>h2);have hc:=cell_fr HE.out hf3;have HN:=hide hN2;clear hN2)
      |(go_at_call 82;refine(HI.out _ _ HN.out).mono ?_;rintro e w3 ⟨rfl,rfl⟩))
     go_returns
     exact⟨rfl,hf3⟩
theorem parse_con (s:ByteArray) (hs:s.size≤281474976710656) (w:World) (he:ErrR w):ConAt Tryz.prog w 63 (eS s) (.tup [.sc (.int .i64 (ppM s.data.toList).1),.sc (.int .i64 (ppM s.data.toList).2)]) []:=by
 have:=con_sct (vl:=[.string s]) (us:=[.int .i64 (ppM s.data.toList).1,.int .i64 (ppM s.data.toList).2]) (parse_any s hs w he)
 exact this
end Go.Proofs.YtpjodoipceddpaaGreatDoor.Aw
namespace Go.Proofs.YtpjodoipceddpaaGreatDoor.Aw
open Go.RowKit Go.Lib Rc
set_option maxHeartbeats 8000000
set_option maxRecDepth 100000
def TrS (w:World):Prop:=TrSt w∧ErrR w
theorem TrS.fr {w w':World} (h:TrS w) (f:Fr (fun _=>False) w w'):TrS w':=⟨h.1.fr f,h.2.fr f⟩
def readV (W:List T):List Int×Bool:=match readM W with
 |some l=>(l,true)
 |none=>([],false)
theorem readM_snoc (l:List T) (x:T):readM (l++[x])=match readM l with
 |some m=>if(ppM x).2=0 then some (m++[(ppM x).1]) else none
 |none=>none:=by
 induction l with
 |nil=>
  rw[List.nil_append,readM,readM]
  split<;>rfl
 |cons y l ih=>
  rw[List.cons_append,readM,readM,ih]
  split
  · cases readM l with
    |none=>rfl
    |some m=>
     simp only[Option.map_some]
     split<;>rfl
  · rfl
theorem readM_none {l:List T}:∀m:List T,readM l=none→readM (l++m)=none:=by
 intro m h
 induction l with
 |nil=>cases h
 |cons y l ih=>
  rw[readM] at h
  rw[List.cons_append,readM]
  split
  · rename_i h1
    rw[if_pos h1] at h
    cases hl:readM l with
    |none=>rw[ih hl];rfl
    |some m=>rw[hl] at h;cases h
  · rfl
theorem readM_len :∀(l:List T) (m:List Int),readM l=some m→m.length=l.length
 |[],m,h=>by cases h;rfl
 |y::l,m,h=>by
  rw[readM] at h
  split at h
  · obtain⟨k,hk,rfl⟩:=Option.map_eq_some_iff.1 h
    rw[List.length_cons,List.length_cons,readM_len l k hk]
  · cases h
noncomputable def spPa :Spec:=spN.tell 63 (byE eS (fun s=>s.size≤281474976710656) (fun s=>.tup [.sc (.int .i64 (ppM s.data.toList).1),.sc (.int .i64 (ppM s.data.toList).2)]))
theorem spPa_at {t:T}:spPa.call 63 [.sc (.string (bt t))]=some ((bt t).size≤281474976710656,.tup [.sc (.int .i64 (ppM t).1),.sc (.int .i64 (ppM t).2)],[]):=by
 unfold spPa
 rw[tell_same]
 have:=byE_eq (pre:=fun s:ByteArray=>s.size≤281474976710656) (r:=fun s=>AV.tup [.sc (.int .i64 (ppM s.data.toList).1),.sc (.int .i64 (ppM s.data.toList).2)]) (fun _ _=>eS_inj) (bt t)
 rw[list_bt] at this
 exact this
theorem spPa_ok (w:World) (hst:TrS w):SpecOk Tryz.prog spPa w (fun _=>False):=
 tell_ok (spN_ok w) (enters_of' Tryz.func63 (by kernel_rfl)) (byE_ok fun a h w' hf=>parse_con a h w' (hst.fr hf).2)
theorem spPa_lit :(spPa.lit=true)=False:=eq_false (fun h=>by cases h)
def Wds (W:List T):Prop:=W.length≤2000000∧∀x∈W,x.length≤2000000
theorem read_con (W:List T) (hW:Wds W) (w:World) (hst:TrS w):ConAt Tryz.prog w 47 [.ro (litS W)] (.tup [.ro ((readV W).1.map eI),.sc (.bool (readV W).2)]) []:=by
 obtain⟨hW,hs⟩:=hW
 refine con_of_aw (sp:=spPa) (Φ:=TrS) [] (fun w h=>spPa_ok w h) (by kernel_rfl) Tryz.func47 rfl ?_ w hst
 intro hLen
 simp only[Tryz.ntmps47,List.length_cons,List.length_nil,Nat.reduceAdd,Nat.reduceSub,List.replicate_succ,List.replicate_zero,List.cons_append,List.nil_append]
 have hR:=Tryz.results47
 have hll:=litS_len W
 simp (maxSteps:=2000000) only[↓awA,awB,evA,envE,ofV,putE,listH,setRow,spl,oneP,guardB,frzA,mapO,allSc,closeA,shiftA,shiftR,flatA,flat0,scA,Row.len,fillW,rep,chunks,closed1,Value.oneCell',Nat.reduceAdd,reduceIte,reduceCtorEq,Nat.reduceLT,Nat.reduceLeDiff,Nat.reduceEqDiff,Nat.reduceSub,Nat.reduceMul,frz1,frzR,eq_self,and_self,tys,  hR,hll]
 refine aw_loop (fun x:Nat×List Int=>[.dead,.dead,.dead,.dead,.sl 0 x.2.length,.dead,.dead,.dead,.dead,.ro (litS W),.sc (.int .i64 (W.length:Int)),.sc (.int .i64 (x.1:Int))]++deads 21) (fun x=>[.lst 1 (x.2.map eI) 3])
  (fun x=>x.1≤W.length∧readM (W.take x.1)=some x.2) (fun x=>W.length - x.1) (0,[]) ?_ ⟨Nat.zero_le _,rfl⟩ ?_ (fun _ _=>by rw[show spPa.pins=0 from rfl];trivial)
 · simp[Weak,weakL,weakR,weakV,nilV,nilR,okA,listH,deads,pinR,isVarB,pin_pins]
 rintro⟨i,m⟩ ⟨hi,hm⟩
 simp only at hi hm
 simp only[deads,List.replicate_succ,List.replicate_zero,List.cons_append,List.nil_append]
 have hml:=readM_len _ _ hm
 rw[List.length_take] at hml
 by_cases hlt:i<W.length
 · obtain⟨x,hx⟩:∃x,W[i]? =some x:=⟨_,List.getElem?_eq_getElem hlt⟩
   have e2:=litS_at hx
   have hw:=wr_lt hlt (by omega)
   have hxs:(bt x).size≤281474976710656:=by rw[size_bt];have:=hs x (List.mem_of_getElem? hx);omega
   have hsn:=readM_snoc (W.take i) x
   rw[←take_at hx,hm] at hsn
   simp only at hsn
   cases hc:((ppM x).2 !=0)
   · have hc2:(ppM x).2=0:=by simpa using hc
     rw[if_pos hc2] at hsn
     have hb:(m.length+1)*8≤140737488355328:=by omega
     have hmm:m.map eI++[[.sc (.int .i64 (ppM x).1)]]=(m++[(ppM x).1]).map eI:=by
      rw[List.map_append]
      rfl
     simp (maxSteps:=2000000) only[↓awA,awB,evA,envE,ofV,putE,listH,setRow,spl,oneP,guardB,frzA,mapO,allSc,closeA,shiftA,shiftR,flatA,flat0,scA,Row.len,fillW,rep,chunks,closed1,Value.oneCell',Nat.reduceAdd,reduceIte,reduceCtorEq,Nat.reduceLT,Nat.reduceLeDiff,Nat.reduceEqDiff,Nat.reduceSub,Nat.reduceMul,frz1,frzR,eq_self,and_self,tys,  hlt,hll,e2,spPa_at,hxs,hc,spPa_lit,hb,hmm]
     refine loopQ_next (i+1,m++[(ppM x).1]) ?_ ⟨hlt,hsn⟩ (by show W.length - (i+1)<W.length - i;omega)
     simp[Weak,weakL,weakR,weakV,nilV,nilR,okA,listH,deads,pinR,isVarB,pin_pins,  hw]
   · have hc2:¬(ppM x).2=0:=by simpa using hc
     rw[if_neg hc2] at hsn
     have hno:readM W=none:=by
      have:=readM_none (W.drop (i+1)) hsn
      rw[List.take_append_drop] at this
      exact this
     have hv:readV W=([],false):=by unfold readV;rw[hno]
     rw[hv]
     simp (maxSteps:=2000000) only[↓awA,awB,evA,envE,ofV,putE,listH,setRow,spl,oneP,guardB,frzA,mapO,allSc,closeA,shiftA,shiftR,flatA,flat0,scA,Row.len,fillW,rep,chunks,closed1,Value.oneCell',Nat.reduceAdd,reduceIte,reduceCtorEq,Nat.reduceLT,Nat.reduceLeDiff,Nat.reduceEqDiff,Nat.reduceSub,Nat.reduceMul,frz1,frzR,eq_self,and_self,tys,  hlt,hll,e2,spPa_at,hxs,hc,hR]
 · have hti:W.take i=W:=List.take_of_length_le (by omega)
   rw[hti] at hm
   have hv:readV W=(m,true):=by unfold readV;rw[hm]
   rw[hv]
   simp (maxSteps:=2000000) only[↓awA,awB,evA,envE,ofV,putE,listH,setRow,spl,oneP,guardB,frzA,mapO,allSc,closeA,shiftA,shiftR,flatA,flat0,scA,Row.len,fillW,rep,chunks,closed1,Value.oneCell',Nat.reduceAdd,reduceIte,reduceCtorEq,Nat.reduceLT,Nat.reduceLeDiff,Nat.reduceEqDiff,Nat.reduceSub,Nat.reduceMul,frz1,frzR,eq_self,and_self,tys,  hlt,hR]
def calledV (W:List T):RecM×Bool:=match W with
 |[n,a]=>(⟨8,0,n,(ppM a).1,[2]⟩,decide ((ppM a).2=0))
 |_=>(⟨0,0,[],0,[]⟩,false)
noncomputable def spPb :Spec:=spPa.lits
theorem spPb_at {t:T}:spPb.call 63 [.sc (.string (bt t))]=some ((bt t).size≤281474976710656,.tup [.sc (.int .i64 (ppM t).1),.sc (.int .i64 (ppM t).2)],[]):=spPa_at
theorem spPb_ok (w:World) (hst:TrS w):SpecOk Tryz.prog spPb w (fun _=>False):=lits_ok (spPa_ok w hst)
theorem spPb_lit :(spPb.lit=true)=True:=eq_true rfl
theorem called_con (W:List T) (hW:Wds W) (w:World) (hst:TrS w):ConAt Tryz.prog w 46 [.ro (litS W)] (.tup [.agg (cR (calledV W).1),.sc (.bool (calledV W).2)]) []:=by
 obtain⟨hW,hs⟩:=hW
 unfold cR
 refine con_of_aw (sp:=spPb) (Φ:=TrS) [] (fun w h=>spPb_ok w h) (by kernel_rfl) Tryz.func46 rfl ?_ w hst
 intro hLen
 simp only[Tryz.ntmps46,List.length_cons,List.length_nil,Nat.reduceAdd,Nat.reduceSub,List.replicate_succ,List.replicate_zero,List.cons_append,List.nil_append]
 have hR:=Tryz.results46
 have hll:=litS_len W
 have hl2:((W.length:Int) !=2)= !decide (W.length=2):=by
  rw[Bool.eq_iff_iff,bne_iff_ne,Bool.not_eq_true',decide_eq_false_iff_not]
  omega
 cases hc:decide (W.length=2)
 · have hc2:=of_decide_eq_false hc
   have hv:calledV W=(⟨0,0,[],0,[]⟩,false):=by
    unfold calledV
    split
    · exact absurd rfl hc2
    · rfl
   rw[hv]
   simp (maxSteps:=2000000) only[↓awA,awB,evA,envE,ofV,putE,listH,setRow,spl,oneP,guardB,frzA,mapO,allSc,closeA,shiftA,shiftR,flatA,flat0,scA,Row.len,fillW,rep,chunks,closed1,Value.oneCell',Nat.reduceAdd,reduceIte,reduceCtorEq,Nat.reduceLT,Nat.reduceLeDiff,Nat.reduceEqDiff,Nat.reduceSub,Nat.reduceMul,frz1,frzR,eq_self,and_self,tys,  hR,hll,hl2,hc]
   rfl
 · have hc2:=of_decide_eq_true hc
   match W,hc2 with
   |[n,a],_=>
    have ha:(bt a).size≤281474976710656:=by rw[size_bt];have:=hs a (by simp);omega
    have e0:at_ (litS [n,a]) 0=[.sc (.string (bt n))]:=rfl
    have e1:at_ (litS [n,a]) 1=[.sc (.string (bt a))]:=rfl
    have hll:(litS [n,a]).length=2:=rfl
    have hz:Int.toNat 0=0:=rfl
    have hz2:(0:Int)≤0:=Int.le_refl 0
    have ho:Int.toNat 1=1:=rfl
    have ho2:(0:Int)≤1:=by decide
    have h02:(0:Int)<(2:Nat):=by decide
    have h12:(1:Int)<(2:Nat):=by decide
    have h22:(((2:Nat):Int) !=2)=false:=rfl
    have hdec:((ppM a).2==0)=decide ((ppM a).2=0):=rfl
    unfold calledV
    simp (maxSteps:=2000000) only[↓awA,awB,evA,envE,ofV,putE,listH,setRow,spl,oneP,guardB,frzA,mapO,allSc,closeA,shiftA,shiftR,flatA,flat0,scA,Row.len,fillW,rep,chunks,closed1,Value.oneCell',Nat.reduceAdd,reduceIte,reduceCtorEq,Nat.reduceLT,Nat.reduceLeDiff,Nat.reduceEqDiff,Nat.reduceSub,Nat.reduceMul,frz1,frzR,eq_self,and_self,tys,  hR,hll,h22,hz,hz2,ho,ho2,h02,h12,e0,e1,spPb_at,ha,spPb_lit,hdec]
    rfl
end Go.Proofs.YtpjodoipceddpaaGreatDoor.Aw
