/- Traces: what a name is, to the program: where a sign may begin. -/
import Derived.Test.YtpjodoipceddpaaGreatDoorRecVx
import Derived.Test.YtpjodoipceddpaaGreatDoorRecI
import Derived.Deep.QuietTactic
import Derived.BigQuiet
namespace Go.Proofs.YtpjodoipceddpaaGreatDoor.Aw
open Go.RowKit Go.Lib Rc
set_option maxHeartbeats 8000000
set_option maxRecDepth 100000
def idxS (s:T):List T→Nat→Int
 |[],_=> -1
 |x::l,i=>if x.isPrefixOf s then(i:Int) else idxS s l (i+1)
def eSg (x:ByteArray×ByteArray):List AV:=[.sc (.string x.1),.rp [.sc (.string x.2)]]
theorem eSg_inj (x y:ByteArray×ByteArray) (h:eSg x=eSg y):x=y:=by
 unfold eSg at h
 simp only[List.cons.injEq,AV.sc.injEq,Value.string.injEq,AV.rp.injEq,and_true] at h
 exact Prod.ext h.1 h.2
theorem first2_con (x:ByteArray×ByteArray) (w:World) (hst:TrSt w):ConAt Tryz.prog w 92 (eSg x) (.sc (.bool (hasPrefix x.2.data.toList x.1.data.toList))) []:=by
 unfold eSg
 refine con_of_aw (sp:=spZ) (Φ:=TrSt) [] (fun w h=>spZ_ok w h) (by kernel_rfl) Tryz.func92 rfl ?_ w hst
 intro hLen
 simp only[Tryz.ntmps92,List.length_cons,List.length_nil,Nat.reduceAdd,Nat.reduceSub,List.replicate_succ,List.replicate_zero,List.cons_append,List.nil_append]
 have hp:∀a b:ByteArray,spZ.call 85 [.sc (.string a),.sc (.string b)]=some (True,.sc (.bool (hasPrefix a.data.toList b.data.toList)),[]):=fun a b=>by
  unfold spZ
  rw[tell_ne (by rfl),tell_ne (by rfl),tell_same]
  exact byE_eq eSS_inj (a,b)
 simp (maxSteps:=2000000) only[↓awA,awB,evA,envE,ofV,putE,listH,setRow,spl,oneP,guardB,frzA,mapO,allSc,closeA,shiftA,shiftR,flatA,flat0,scA,Row.len,fillW,rep,chunks,closed1,Value.oneCell',Nat.reduceAdd,reduceIte,reduceCtorEq,Nat.reduceLT,Nat.reduceLeDiff,Nat.reduceEqDiff,Nat.reduceSub,Nat.reduceMul,frz1,frzR,eq_self,and_self,tys,  hp,Tryz.results92]
noncomputable def spD :Spec:=spN.tell 92 (byE eSg (fun _=>True) (fun x=>.sc (.bool (hasPrefix x.2.data.toList x.1.data.toList))))
theorem spD_at {t:T} {s:ByteArray}:spD.call 92 [.sc (.string (bt t)),.rp [.sc (.string s)]]=some (True,.sc (.bool (t.isPrefixOf s.data.toList)),[]):=by
 unfold spD
 rw[tell_same]
 have:=byE_eq (pre:=fun _:ByteArray×ByteArray=>True) (r:=fun x=>AV.sc (.bool (hasPrefix x.2.data.toList x.1.data.toList))) eSg_inj (bt t,s)
 rw[list_bt] at this
 exact this
theorem spD_ok (w:World) (hst:TrSt w):SpecOk Tryz.prog spD w (fun _=>False):=
 tell_ok (spN_ok w) (enters_of' Tryz.func92 (by kernel_rfl)) (byE_ok fun a _ w' hf=>first2_con a w' (hst.fr hf))
theorem indexS_con (s:ByteArray) (L:List T) (w:World) (hst:TrSt w):ConAt Tryz.prog w 91 [.ro (litS L),.fn 92 [.rp [.sc (.string s)]]] (.sc (.int .i64 (idxS s.data.toList L 0))) []:=by
 unfold litS
 refine con_of_aw (sp:=spD) (Φ:=TrSt) [] (fun w h=>spD_ok w h) (by kernel_rfl) Tryz.func91 rfl ?_ w hst
 intro hLen
 simp only[Tryz.ntmps91,List.length_cons,List.length_nil,Nat.reduceAdd,Nat.reduceSub,List.replicate_succ,List.replicate_zero,List.cons_append,List.nil_append]
 have hl:L.length≤9223372036854775807:=by
  have:=(hLen _ List.mem_cons_self).1
  simpa using this
 have hll:((L.map bt).map eS).length=L.length:=by simp
 simp (maxSteps:=2000000) only[↓awA,awB,evA,envE,ofV,putE,listH,setRow,spl,oneP,guardB,frzA,mapO,allSc,closeA,shiftA,shiftR,flatA,flat0,scA,Row.len,fillW,rep,chunks,closed1,Value.oneCell',Nat.reduceAdd,reduceIte,reduceCtorEq,Nat.reduceLT,Nat.reduceLeDiff,Nat.reduceEqDiff,Nat.reduceSub,Nat.reduceMul,frz1,frzR,eq_self,and_self,tys,  Tryz.results91]
 refine aw_loop (fun i:Nat=>[.ro ((L.map bt).map eS),.fn 92 [.rp [.sc (.string s)]],.dead,.dead,.dead,.dead,.dead,.sc (.int .i64 (L.length:Int)),.sc (.int .i64 (i:Int))]++deads 10) (fun _=>[]) (fun i=>i≤L.length∧idxS s.data.toList L 0=idxS s.data.toList (L.drop i) i) (fun i=>L.length - i) 0 ?_ ⟨Nat.zero_le _,rfl⟩ ?_ (fun _ _=>trivial)
 · simp[Weak,weakL,weakR,weakV,nilV,nilR,okA,listH,deads,pinR,isVarB,pin_pins]
 rintro i ⟨hi,hA⟩
 simp only[deads,List.replicate_succ,List.replicate_zero,List.cons_append,List.nil_append]
 by_cases hlt:i<L.length
 · obtain⟨x,hx⟩:∃x,L[i]? =some x:=⟨_,List.getElem?_eq_getElem hlt⟩
   have hx2:(L.map bt)[i]? =some (bt x):=by rw[List.getElem?_map,hx];rfl
   have e2:at_ ((L.map bt).map eS) i=eS (bt x):=at_some hx2
   have hw:=wr_lt hlt hl
   rw[drop_at hx,idxS] at hA
   cases hp:x.isPrefixOf s.data.toList
   · simp only[hp,Bool.false_eq_true,if_false] at hA
     simp (maxSteps:=2000000) only[↓awA,awB,evA,envE,ofV,putE,listH,setRow,spl,oneP,guardB,frzA,mapO,allSc,closeA,shiftA,shiftR,flatA,flat0,scA,Row.len,fillW,rep,chunks,closed1,Value.oneCell',Nat.reduceAdd,reduceIte,reduceCtorEq,Nat.reduceLT,Nat.reduceLeDiff,Nat.reduceEqDiff,Nat.reduceSub,Nat.reduceMul,frz1,frzR,eq_self,and_self,tys,  hlt,e2,eS,spD_at,hp]
     refine loopQ_next (i+1) ?_ ⟨hlt,hA⟩ (by omega)
     simp[Weak,weakL,weakR,weakV,nilV,nilR,okA,listH,deads,pinR,isVarB,pin_pins,  hw]
   · simp only[hp,if_true] at hA
     rw[hA]
     simp (maxSteps:=2000000) only[↓awA,awB,evA,envE,ofV,putE,listH,setRow,spl,oneP,guardB,frzA,mapO,allSc,closeA,shiftA,shiftR,flatA,flat0,scA,Row.len,fillW,rep,chunks,closed1,Value.oneCell',Nat.reduceAdd,reduceIte,reduceCtorEq,Nat.reduceLT,Nat.reduceLeDiff,Nat.reduceEqDiff,Nat.reduceSub,Nat.reduceMul,frz1,frzR,eq_self,and_self,tys,  hlt,e2,eS,spD_at,hp,Tryz.results91]
 · rw[hA,List.drop_of_length_le (by omega),idxS]
   simp (maxSteps:=2000000) only[↓awA,awB,evA,envE,ofV,putE,listH,setRow,spl,oneP,guardB,frzA,mapO,allSc,closeA,shiftA,shiftR,flatA,flat0,scA,Row.len,fillW,rep,chunks,closed1,Value.oneCell',Nat.reduceAdd,reduceIte,reduceCtorEq,Nat.reduceLT,Nat.reduceLeDiff,Nat.reduceEqDiff,Nat.reduceSub,Nat.reduceMul,frz1,frzR,eq_self,and_self,tys,  hlt,Tryz.results91]
theorem strV_ok (x:ByteArray):[Value.string x].length=1∧∀u∈[Value.string x],u.oneCell'=true:=by
 refine⟨rfl,fun u hu=> ?_⟩
 rw[List.mem_singleton] at hu
 rw[hu]
 rfl
def strV (x:ByteArray):Vec 1:=⟨[.string x],strV_ok x⟩
theorem flat_strs (L:List ByteArray) (h:0<1):(vecC 1 h).flat (L.map strV)=L.map Value.string:=by
 induction L with
 |nil=>rfl
 |cons x L ih=>rw[List.map_cons,Cod.flat_cons,ih];rfl
theorem ro_strs {S:Nat→Prop} {w:World} {g o c:Nat} {L:List ByteArray} (hS:S g) (hc:∀j x,L[j]? =some x→w.cell? ⟨g,o+j,none⟩=some (.string x)) (h1:L.length≤c) (h2:c≤maxLen):VC S w (.ro (L.map eS)) (.slice (some ⟨g,o,none⟩) L.length c):=by
 have hRd:Rd (vecC 1 (by decide)) w S (.slice (some ⟨g,o,none⟩) L.length c) (L.map strV):=by
  refine⟨some ⟨g,o,none⟩,c,by rw[List.length_map],by rw[List.length_map];exact h1,h2,(fun h=>by cases h),fun _=>⟨g,o,rfl,hS,fun j u hu=> ?_⟩⟩
  rw[flat_strs,List.getElem?_map] at hu
  cases hj:L[j]? with
  |none=>rw[hj] at hu;cases hu
  |some y=>rw[hj] at hu;cases hu;exact hc j y hj
 refine .ro _ 1 (by decide) (L.map strV) _ hRd (by simp) (fun i e he=> ?_) (fun i j e c x v he hcc hx hv=> ?_)
 · rw[List.getElem?_map] at he
   cases hi:L[i]? with
   |none=>rw[hi] at he;cases he
   |some y=>rw[hi] at he;cases he;rfl
 · rw[List.getElem?_map] at he hcc
   cases hi:L[i]? with
   |none=>rw[hi] at he;cases he
   |some y=>
    rw[hi] at he hcc
    cases he
    cases hcc
    match j with
    |0=>cases hx;cases hv;exact .sc _
    |j+1=>simp[eS] at hx
theorem idx_find (s:T):∀(L:List T) (i:Nat),(L.find? (·.isPrefixOf s)=none∧idxS s L i= -1)∨∃(k:Nat) (x:T),L.find? (·.isPrefixOf s)=some x∧idxS s L i=((i+k:Nat):Int)∧L[k]? =some x
 |[],i=>.inl ⟨rfl,rfl⟩
 |x::l,i=>by
  cases h:x.isPrefixOf s
  · have e1:(x::l).find? (·.isPrefixOf s)=l.find? (·.isPrefixOf s):=by rw[List.find?_cons];simp[h]
    have e2:idxS s (x::l) i=idxS s l (i+1):=by rw[idxS,h];rfl
    rw[e1,e2]
    rcases idx_find s l (i+1) with h1|⟨k,y,h1,h2,h3⟩
    · exact .inl h1
    · exact .inr ⟨k+1,y,h1,by rw[h2];omega,h3⟩
  · exact .inr ⟨0,x,by rw[List.find?_cons];simp[h],by rw[idxS,h];rfl,rfl⟩
theorem index_signs (s:ByteArray) (b:Nat) (W:World) (hst:TrSt W) (hb:W.cell? ⟨b,0,none⟩=some (.string s)):
 Calls Tryz.prog 91 #[.slice (some ⟨2,0,none⟩) 14 14,.func (.func 92) #[] #[.pointer (some ⟨b,0,none⟩)]] W fun e w'=>e=.returned (.int .i64 (idxS s.data.toList signs 0))∧Fr (fun _=>False) W w':=by
 have hcells:∀j x,(signs.map bt)[j]? =some x→W.cell? ⟨2,0+j,none⟩=some (.string x):=fun j x hx=>by
  rw[List.getElem?_map] at hx
  cases hj:signs[j]? with
  |none=>rw[hj] at hx;cases hx
  |some t=>
   rw[hj] at hx
   cases hx
   have hlt:j<14:=(List.getElem?_eq_some_iff.1 hj).1
   rw[Nat.zero_add,hst.sg j hlt,List.getD_eq_getElem?_getD,hj]
   rfl
 have hro:VC (fun k=>k=2∨k=b) W (.ro (litS signs)) (.slice (some ⟨2,0,none⟩) 14 14):=ro_strs (L:=signs.map bt) (.inl rfl) hcells (by decide) (by decide)
 have hfn:VC (fun k=>k=2∨k=b) W (.fn 92 [.rp [.sc (.string s)]]) (.func (.func 92) #[] [Value.pointer (some ⟨b,0,none⟩)].toArray):=by
  refine .fn _ _ _ rfl (fun i x v hx hv=> ?_)
  match i with
  |0=>
   cases hx
   cases hv
   refine .rp _ b 0 [.string s] (.inr rfl) (fun j v hj=> ?_) rfl (by intro v hv;rw[List.mem_singleton] at hv;rw[hv];rfl) (fun j x v hx hv=> ?_)
   · match j with
     |0=>cases hj;exact hb
     |j+1=>simp at hj
   · match j with
     |0=>cases hx;cases hv;exact .sc _
     |j+1=>simp at hx
  |i+1=>simp at hx
 have hlts:∀k,k=2∨k=b→k<W.heap.size:=fun k hk=>by
  rcases hk with rfl|rfl
  · exact World.block_lt_of_cell? W _ (hst.sg 0 (by decide))
  · exact World.block_lt_of_cell? W _ hb
 have:=indexS_con s signs W hst (fun k=>k=2∨k=b) [.slice (some ⟨2,0,none⟩) 14 14,.func (.func 92) #[] #[.pointer (some ⟨b,0,none⟩)]] hlts rfl (fun i x v hx hv=>by
  match i with
  |0=>cases hx;cases hv;exact hro
  |1=>cases hx;cases hv;exact hfn
  |i+2=>simp at hx)
 exact this.mono fun e w' ⟨v,I,he,hm,hv⟩=>⟨by rw[he,hv.sc_inv],hm.fr⟩
theorem first_sign (s:ByteArray) (hs:s.size≤1000000000) (c:UInt8) (r:T) (ht:s.data.toList=c::r) (hp:[45,45].isPrefixOf s.data.toList=false) (hd:isD c=false) (hL:isL c=false) (w:World) (hst:TrSt w):
 Calls Tryz.prog 66 #[.string s] w fun e w'=>e=.returned (.tuple #[.int .i64 ((firstM s.data.toList).1:Nat),.int .u8 ((firstM s.data.toList).2:Nat)])∧Fr (fun _=>False) w w':=by
 have h0:0<s.size:=by
  have:s.data.toList.length=s.size:=rfl
  rw[ht,List.length_cons] at this
  omega
 have hpos:(0:Int)<s.size:=by omega
 have hb0:s[0]'h0=c:=by
  have h1:s.data.toList[0]? =some c:=by rw[ht];rfl
  have h2:s.data.toList[0]? =some (s.data.toList[0]'h0):=List.getElem?_eq_getElem _
  rw[h2] at h1
  exact Option.some.inj h1
 have HP:=hide (fun(W:World)=>show Calls Tryz.prog 85 #[.string s,.string ⟨#[45,45]⟩] W (fun e w'=>e=.returned (.bool false)∧W=w') from(Tryz.strings_HasPrefix s ⟨#[45,45]⟩ W).mono fun e w' ⟨h1,h2⟩=>⟨by rw[h1];unfold hasPrefix;rw[show (⟨#[45,45]⟩:ByteArray).data.toList=[45,45] from rfl,hp],h2.symm⟩)
 have HD:=hide (fun(W:World)=>show Calls Tryz.prog 86 #[.int .u8 ((s[0]'h0).toNat:Int)] W (fun e w'=>e=.returned (.bool false)∧Fr (fun _=>False) W w') from by
  have:=calls_sc (vl:=[.int .u8 (c.toNat:Int)]) (digit_con c W)
  rw[hd] at this
  rw[hb0]
  exact this)
 have HLt:=hide (fun(W:World)=>show Calls Tryz.prog 88 #[.int .u8 ((s[0]'h0).toNat:Int)] W (fun e w'=>e=.returned (.bool false)∧Fr (fun _=>False) W w') from by
  have:=letter_any c W
  rw[hL] at this
  rw[hb0]
  exact this)
 have hE1:¬s.toList=[]:=by rw[toList_data,ht];simp
 have hE2:s.toList.isEmpty=false:=by rw[toList_data,ht];rfl
 have hf:firstM s.data.toList=(match signs.find? (·.isPrefixOf s.data.toList) with
  |none=>(0,0)
  |some t=>(t.length,4)):=by
  rw[ht] at hp⊢
  unfold firstM
  simp only
  rw[if_neg (by rw[hp];simp),if_neg (by rw[hd];simp),if_neg (by rw[hL];simp)]
  rfl
 have hfind:=idx_find s.data.toList signs 0
 have HST:=hide (fun(W:World) (f:Fr (fun _=>False) w W)=>hst.fr f)
 have hal:=Fr.alloc (Fr.refl (fun _=>False) w) (.cells #[.string s] 9)
 have HIX:=hide (fun(W:World) (h1:TrSt W) (h2:W.cell? ⟨w.heap.size,0,none⟩=some (.string s))=>index_signs s w.heap.size W h1 h2)
 have hbx:(w.alloc (.cells #[.string s] 9)).cell? ⟨w.heap.size,0,none⟩=some (.string s):=cell_of_row _ _ _ _ _ _ (heap_alloc_new w _)
 rw[hf]
 generalize idxS s.data.toList signs 0=k at hfind HIX
 obtain⟨R,hR⟩:∃R:Nat×Nat,R=(match signs.find? (·.isPrefixOf s.data.toList) with
  |none=>(0,0)
  |some t=>(t.length,4)):=⟨_,rfl⟩
 rw[←hR]
 have HR:Hid ((k= -1∧R=(0,0))∨∃i:Nat,i<14∧k=(i:Int)∧R=((signs.getD i []).length,4)):=hide (by
  rcases hfind with ⟨h1,h2⟩|⟨i,x,h1,h2,h3⟩
  · rw[h1] at hR;exact .inl ⟨h2,hR⟩
  · rw[h1] at hR
    refine .inr ⟨i,(List.getElem?_eq_some_iff.1 h3).1,by rw[h2];omega, ?_⟩
    rw[hR,List.getD_eq_getElem?_getD,h3]
    rfl)
 have HA:=hide hal
 have HB:=hide hbx
 clear hR hfind hf hb0 hd hL hp ht hst hal hbx
 rcases HR.out with ⟨rfl,rfl⟩|⟨i,hi,rfl,rfl⟩
 · clear HR
   go_enter Tryz.func66,Tryz.ntmps66
   go_wp2_with (first
    |(go_at_call 85;refine(HP.out _).mono ?_;rintro e w' ⟨rfl,rfl⟩)
    |(go_at_call 86;refine(HD.out _).mono ?_;rintro e w1 ⟨rfl,f1⟩;have hx1:=cell_fr HB.out f1)
    |(go_at_call 88;refine(HLt.out _).mono ?_;rintro e w2 ⟨rfl,f2⟩;have hx2:=cell_fr hx1 f2)
    |(go_at_call 91;refine(HIX.out w2 (HST.out _ ((HA.out.trans f1).trans f2)) hx2).mono ?_;rintro e w3 ⟨rfl,f3⟩))
   go_ret2
   exact⟨rfl,((HA.out.trans f1).trans f2).trans f3⟩
 · clear HR
   have hi1:(i:Int)<14:=by omega
   have hi2:¬(i:Int)<0:=by omega
   generalize hg:signs.getD i []=g at*
   go_enter Tryz.func66,Tryz.ntmps66
   go_wp2_with (first
    |(go_at_call 85;refine(HP.out _).mono ?_;rintro e w' ⟨rfl,rfl⟩)
    |(go_at_call 86;refine(HD.out _).mono ?_;rintro e w1 ⟨rfl,f1⟩;have hx1:=cell_fr HB.out f1)
    |(go_at_call 88;refine(HLt.out _).mono ?_;rintro e w2 ⟨rfl,f2⟩;have hx2:=cell_fr hx1 f2)
    |(go_at_call 91;refine(HIX.out w2 (HST.out _ ((HA.out.trans f1).trans f2)) hx2).mono ?_;rintro e w3 ⟨rfl,f3⟩;have hsg:=(HST.out _ (((HA.out.trans f1).trans f2).trans f3)).sg i hi;rw[hg] at hsg))
   go_ret2
   exact⟨rfl,((HA.out.trans f1).trans f2).trans f3⟩
theorem con_sct {P:Program} {w:World} {f:FuncId} {vl us:List Value} (h:Calls P f vl.toArray w fun e w'=>e=.returned (.tuple us.toArray)∧Fr (fun _=>False) w w'):ConAt P w f (vl.map .sc) (.tup (us.map .sc)) []:=by
 refine con_tup fun S vs hS hl hv=> ?_
 have hl2:vs.length=vl.length:=by rw[←hl,List.length_map]
 have:vs=vl:=by
  apply List.ext_getElem hl2
  intro i h1 h2
  exact(hv i (.sc vl[i]) vs[i] (by rw[List.getElem?_map,List.getElem?_eq_getElem h2];rfl) (List.getElem?_eq_getElem h1)).sc_inv
 rw[this]
 refine h.mono fun e w' ⟨he,hf⟩=>⟨us,fun _=>False,he,fun k hk=>hk.elim,by simp,fun i x v h1 h2=> ?_,hf⟩
 rw[getElem?_map_sc h1 h2]
 exact .sc v
theorem firstA_con (s:ByteArray) (hs:s.size≤1000000000) (w:World) (hst:TrSt w):ConAt Tryz.prog w 66 (eS s) (.tup [.sc (.int .i64 ((firstM s.data.toList).1:Nat)),.sc (.int .u8 ((firstM s.data.toList).2:Nat))]) []:=by
 by_cases hns:s.data.toList=[]∨[45,45].isPrefixOf s.data.toList=true∨∃c r,s.data.toList=c::r∧(isD c=true∨isL c=true)
 · exact first_con s hs hns w hst
 · rw[not_or,not_or] at hns
   obtain⟨h1,h2,h3⟩:=hns
   obtain⟨c,r,ht⟩:=List.exists_cons_of_ne_nil h1
   have hd:isD c=false:=by
    cases h:isD c
    · rfl
    · exact absurd ⟨c,r,ht,.inl h⟩ h3
   have hL:isL c=false:=by
    cases h:isL c
    · rfl
    · exact absurd ⟨c,r,ht,.inr h⟩ h3
   exact con_sct (vl:=[.string s]) (us:=[.int .i64 ((firstM s.data.toList).1:Nat),.int .u8 ((firstM s.data.toList).2:Nat)]) (first_sign s hs c r ht (Bool.eq_false_iff.2 h2) hd hL w hst)
noncomputable def spIs :Spec:=spN.tell 66 (byE eS (fun s=>s.size≤1000000000) (fun s=>.tup [.sc (.int .i64 ((firstM s.data.toList).1:Nat)),.sc (.int .u8 ((firstM s.data.toList).2:Nat))]))
theorem spIs_at {s:ByteArray}:spIs.call 66 [.sc (.string s)]=some (s.size≤1000000000,.tup [.sc (.int .i64 ((firstM s.data.toList).1:Nat)),.sc (.int .u8 ((firstM s.data.toList).2:Nat))],[]):=by
 unfold spIs
 rw[tell_same]
 exact byE_eq (fun _ _=>eS_inj) s
theorem spIs_ok (w:World) (hst:TrSt w):SpecOk Tryz.prog spIs w (fun _=>False):=
 tell_ok (spN_ok w) (enters_of' Tryz.func66 (by kernel_rfl)) (byE_ok fun a h w' hf=>firstA_con a h w' (hst.fr hf))
theorem is_con (s:ByteArray) (hs:s.size≤1000000000) (w:World) (hst:TrSt w):ConAt Tryz.prog w 51 (eS s) (.sc (.int .u8 (isM s.data.toList:Nat))) []:=by
 unfold eS
 refine con_of_aw (sp:=spIs) (Φ:=TrSt) [] (fun w h=>spIs_ok w h) (by kernel_rfl) Tryz.func51 rfl ?_ w hst
 intro hLen
 simp only[Tryz.ntmps51,List.length_cons,List.length_nil,Nat.reduceAdd,Nat.reduceSub,List.replicate_succ,List.replicate_zero,List.cons_append,List.nil_append]
 have hl:s.data.toList.length=s.size:=rfl
 have hsp:= @spIs_at s
 unfold isM
 rw[hl]
 generalize firstM s.data.toList=x at hsp⊢
 obtain⟨n,k⟩:=x
 simp only at hsp⊢
 have e0:((0:Nat):Int)=0:=rfl
 by_cases h1:n=s.size
 · have c1:((n:Int) !=(s.size:Int))=false:=by rw[h1];simp
   by_cases h2:64<n
   · have c2:decide ((n:Int)>64)=true:=decide_eq_true (by omega)
     rw[if_pos (.inr h2)]
     simp (maxSteps:=2000000) only[↓awA,awB,evA,envE,ofV,putE,listH,setRow,spl,oneP,guardB,frzA,mapO,allSc,closeA,shiftA,shiftR,flatA,flat0,scA,Row.len,fillW,rep,chunks,closed1,Value.oneCell',Nat.reduceAdd,reduceIte,reduceCtorEq,Nat.reduceLT,Nat.reduceLeDiff,Nat.reduceEqDiff,Nat.reduceSub,Nat.reduceMul,frz1,frzR,eq_self,and_self,tys,  hsp,hs,c1,c2,e0,Tryz.results51]
   · have c2:decide ((n:Int)>64)=false:=decide_eq_false (by omega)
     rw[if_neg (fun h=>h.elim (fun h=>h h1) h2)]
     simp (maxSteps:=2000000) only[↓awA,awB,evA,envE,ofV,putE,listH,setRow,spl,oneP,guardB,frzA,mapO,allSc,closeA,shiftA,shiftR,flatA,flat0,scA,Row.len,fillW,rep,chunks,closed1,Value.oneCell',Nat.reduceAdd,reduceIte,reduceCtorEq,Nat.reduceLT,Nat.reduceLeDiff,Nat.reduceEqDiff,Nat.reduceSub,Nat.reduceMul,frz1,frzR,eq_self,and_self,tys,  hsp,hs,c1,c2,Tryz.results51]
 · have c1:((n:Int) !=(s.size:Int))=true:=by rw[bne_iff_ne];omega
   rw[if_pos (.inl h1)]
   simp (maxSteps:=2000000) only[↓awA,awB,evA,envE,ofV,putE,listH,setRow,spl,oneP,guardB,frzA,mapO,allSc,closeA,shiftA,shiftR,flatA,flat0,scA,Row.len,fillW,rep,chunks,closed1,Value.oneCell',Nat.reduceAdd,reduceIte,reduceCtorEq,Nat.reduceLT,Nat.reduceLeDiff,Nat.reduceEqDiff,Nat.reduceSub,Nat.reduceMul,frz1,frzR,eq_self,and_self,tys,  hsp,hs,c1,e0,Tryz.results51]
end Go.Proofs.YtpjodoipceddpaaGreatDoor.Aw
