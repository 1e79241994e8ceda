/- the reference's tree: Parse, walked abstractly: it answers what the program's answers. -/
import Derived.Test.YtnlacmnoocigiaaGreatDoorAwThr
import Derived.Test.YtnlacmnoocigiaaGreatDoorTrrN
import Derived.Test.YtnlacmnoocigiaaGreatDoorTrsNs
import Derived.Test.YtnlacmnoocigiaaGreatDoorTreGt
namespace Go.Proofs.YtnlacmnoocigiaaGreatDoor.Aw
open Go.RowKit Go.Lib
theorem zwt {w:World}{S:Nat→Prop}{v:Value}{L:List RawV}{x:Tok}(h:Rd rawC w S v L)(he:L.map nv=x.attrs.map z3d):VC S w (.ro ((z01 x).map z9t)) v:=by
 have:z01 x=L.map nv:=by rw[he];rfl
 rw[this,List.map_map]
 exact vc_ro id (by rw[List.map_id];exact h) (z9t∘nv) (fun x=>rfl) (fun r hr j y u h1 h2=>by
  match j with
  |0=>cases h1;cases h2;exact .sc _
  |1=>cases h1;cases h2;exact .sc _
  |2=>cases h1;exact .dead _
  |j+3=>simp[z9t] at h1)
theorem zu5 {w:World}{base:Nat}{v:Value}{o:Option Nat}{X:List TokX}(h:RTokL w base v o X):VC (fun k=>base≤k∧k<w.heap.size) w (.ro ((X.map (·.m)).map z0r)) v:=by
 rw[List.map_map];refine vc_ro TokX.t (h.own.rd.mono (fun k hk=>h.new k hk)) (z0r∘TokX.m) (fun x=>rfl) (fun x hx j y u h1 h2=> ?_);obtain⟨g1,g2,g3,g4,g5,L,g6,g7⟩:=h.ok x hx
 match j with
 |0=>cases h1;cases h2;rw[g1];exact .sc _
 |1=>cases h1;cases h2;rw[g2];exact .sc _
 |2=>cases h1;cases h2;exact zwt (g6.rd.mono (fun k hk=>⟨(h.newa x hx k hk).1,(h.newa x hx k hk).2.1⟩)) g7
 |3=>cases h1;cases h2;rw[g3];exact .sc _
 |4=>cases h1;cases h2;rw[g4];exact .sc _
 |j+5=>simp[z0r] at h1
theorem zj3 (s:ByteArray)(w:World):zaw Tryz.prog w 19 [.sc (.string s)]
 (.tup [.ro ((tokR s.data.toList).1.map z0r),.sc (.int .i64 ((tokR s.data.toList).2.1:Int)),.sc (.int .i64 (tokR s.data.toList).2.2)]) []:=by
 refine zvk fun S vs hS hl hv=> ?_
 match vs,hl with
 |[v],_=>
  have e1:=(hv 0 _ v rfl rfl).sc_inv;subst e1;refine(zih s w).mono fun e w' ⟨A,c,o,X,h1,h2,h3,h4⟩=> ?_;refine⟨[.slice A X.length c,.int .i64 _,.int .i64 _],fun k=>w.heap.size≤k∧k<w'.heap.size,h1,fun k hk=>hk,rfl,fun i x u a1 a2=> ?_,h4⟩
  match i with
  |0=>cases a1;cases a2;rw[←h3];exact zu5 h2
  |1=>cases a1;cases a2;exact .sc _
  |2=>cases a1;cases a2;exact .sc _
  |i+3=>simp at a1
theorem zhl :∀l:List Tok,z2j l=sumT l
 |[]=>rfl
 |x::l=>by rw[z2j,sumT,zhl l]
def RS.rows0 (s:RS):List Row:=[.var [.ro (s.toks.map z0r),.sc (.int .i64 (s.i:Int)),.sc (.slice none 0 0),.sc (.int .i64 s.a),.sc (.int .i64 s.e),.sc (.int .i64 (s.n:Int))] 60]
abbrev RSz :={p:Bool×RS // p.1=true→p.2.N=[]}
def zu6 (x:RSz):List AV×List Row:=([.ptr 0 0],if x.1.1=true then x.1.2.rows0 else x.1.2.rows)
theorem zhm (x y:RSz)(h:zu6 x=zu6 y):x=y:=by
 obtain⟨⟨b,s⟩,hs⟩:=x;obtain⟨⟨c,t⟩,ht⟩:=y;unfold zu6 at h;simp only[Prod.mk.injEq,true_and] at h;cases b<;>cases c
 · have:s=t:=RS.rows_inj (by simpa using h);subst this;rfl
 · simp[RS.rows,RS.rows0] at h
 · simp[RS.rows,RS.rows0] at h
 · have h1:=hs rfl;have h2:=ht rfl;have:s.rows=t.rows:=by simp only[if_true] at h;unfold RS.rows0 at h;simp only[List.cons.injEq,Row.var.injEq,AV.sc.injEq,AV.ro.injEq,Value.int.injEq,and_true,true_and] at h;obtain⟨a1,a2,a3,a4,a5⟩:=h;unfold RS.rows;have h1:s.N=[]:=h1;have h2:t.N=[]:=h2;rw[h1,h2,a1,a2,a3,a4,a5]
   have:s=t:=RS.rows_inj this;subst this;rfl
theorem zj4 (s:RS)(h0:s.N=[])(hs:z2j s.toks≤1000000)(hi:s.i≤s.toks.length)(hl:s.toks.length≤1000000)(w:World):ConMAt Tryz.prog w (fun _=>True) 20 [.ptr 0 0] s.rows0 (.sc undef) s.skip.rows:=by
 refine znr (zdn s hs hi hl w) ?_ (fun K cs e hK=> ?_)
 · unfold RS.rows RS.rows0;rw[h0];simp[Weak,z1t,z1d,z1k,nilV,nilR,okA,z00,z16,pinR,z0e,z0t]
 · unfold z00 RS.rows0 at hK
   match K with
   |0=>exact⟨_,_,rfl⟩
   |K+1=>simp at hK
structure BkOk (s:RS):Prop where
 t:z2j s.toks≤1000000
 i:s.i≤s.toks.length
 l:s.toks.length≤1000000
noncomputable def spP (f:Nat):Spec:=
 (((spN.tell 19 (byE zr2 (fun _=>True) (fun s=>.tup [.ro ((tokR s.data.toList).1.map z0r),.sc (.int .i64 ((tokR s.data.toList).2.1:Int)),.sc (.int .i64 (tokR s.data.toList).2.2)]))).tellM
   21 (byX zr0 (fun _=>True) (fun _=>.sc (.bool false)) (fun x=>(x.1.fail x.2).rows))).tellM
   20 (byX zu6 (fun x=>BkOk x.1.2) (fun _=>.sc undef) (fun x=>x.1.2.skip.rows))).tellM
   22 (byX zqz (fun x=>ElOk x.1 x.2.2 f) (fun x=>resV (z3o x.1 x.2.1 x.2.2 f)) (fun x=>resR x.1 (z3o x.1 x.2.1 x.2.2 f)))
theorem z3p {f:Nat}{s:ByteArray}:(spP f).call 19 [.sc (.string s)]=some (True,.tup [.ro ((tokR s.data.toList).1.map z0r),.sc (.int .i64 ((tokR s.data.toList).2.1:Int)),.sc (.int .i64 (tokR s.data.toList).2.2)],[]):=by unfold spP;rw[z3g,z3g,z3g,z8j];exact znp zhi s
theorem zhn {f:Nat}{X:List Tok}{i:Nat}{N:List NodeM}{a e:Int}{n:Nat}{er:Int}:(spP f).callM 21 [.ptr 0 0,.sc (.int .i64 er)]
 [.var [.ro (X.map z0r),.sc (.int .i64 (i:Int)),.sl 1 N.length,.sc (.int .i64 a),.sc (.int .i64 e),.sc (.int .i64 (n:Int))] 60,.lst 7 (N.map encN) 79]=some (True,.sc (.bool false),(RS.fail ⟨X,i,N,a,e,n⟩ er).rows):=by
 unfold spP;rw[z8k (by rfl),z8k (by rfl),z4e];exact zct zhh ((⟨X,i,N,a,e,n⟩:RS),er)
theorem zj5 {f:Nat}{X:List Tok}{i:Nat}{N:List NodeM}{a e:Int}{n:Nat}{p:Int}{d:Nat}:(spP f).callM 22 [.ptr 0 0,.sc (.int .i64 p),.sc (.int .i64 (d:Int))]
 [.var [.ro (X.map z0r),.sc (.int .i64 (i:Int)),.sl 1 N.length,.sc (.int .i64 a),.sc (.int .i64 e),.sc (.int .i64 (n:Int))] 60,.lst 7 (N.map encN) 79]=
 some (ElOk ⟨X,i,N,a,e,n⟩ d f,resV (z3o ⟨X,i,N,a,e,n⟩ p d f),resR ⟨X,i,N,a,e,n⟩ (z3o ⟨X,i,N,a,e,n⟩ p d f)):=by
 unfold spP;rw[z4e];exact zct zhg ((⟨X,i,N,a,e,n⟩:RS),p,d)
theorem zj6 {f:Nat}{X:List Tok}{i:Nat}{a e:Int}{n:Nat}:(spP f).callM 20 [.ptr 0 0]
 [.var [.ro (X.map z0r),.sc (.int .i64 (i:Int)),.sc (.slice none 0 0),.sc (.int .i64 a),.sc (.int .i64 e),.sc (.int .i64 (n:Int))] 60]=some (BkOk ⟨X,i,[],a,e,n⟩,.sc undef,(RS.skip ⟨X,i,[],a,e,n⟩).rows):=by
 unfold spP;rw[z8k (by rfl),z4e];exact zct zhm (⟨(true,(⟨X,i,[],a,e,n⟩:RS)),fun _=>rfl⟩:RSz)
theorem zmo {f:Nat}{X:List Tok}{i:Nat}{N:List NodeM}{a e:Int}{n:Nat}:(spP f).callM 20 [.ptr 0 0]
 [.var [.ro (X.map z0r),.sc (.int .i64 (i:Int)),.sl 1 N.length,.sc (.int .i64 a),.sc (.int .i64 e),.sc (.int .i64 (n:Int))] 60,.lst 7 (N.map encN) 79]=some (BkOk ⟨X,i,N,a,e,n⟩,.sc undef,(RS.skip ⟨X,i,N,a,e,n⟩).rows):=by
 unfold spP;rw[z8k (by rfl),z4e];exact zct zhm (⟨(false,(⟨X,i,N,a,e,n⟩:RS)),fun h=>by cases h⟩:RSz)
theorem zcg {f:Nat}:(spP f).ms=[22,20,21]:=rfl
theorem zxz {f:Nat}(w:World){fp:Nat→Prop}:SpecOk Tryz.prog (spP f) w fp:=
 z8l (z8l (z8l (zdz (zfc w) (z2b Tryz.func19 (by kernel_rfl)) (znq fun a _ w _=>zj3 a w))
  (z2b Tryz.func21 (by kernel_rfl)) (zfd fun a _ w _=>zhd a.1 a.2 w))
  (z2b Tryz.func20 (by kernel_rfl)) (zfd fun a h w _=>by
   obtain⟨⟨b,s⟩,hs⟩:=a;cases b
   · exact zdn s h.t h.i h.l w
   · exact zj4 s (hs rfl) h.t h.i h.l w))
  (z2b Tryz.func22 (by kernel_rfl)) (zfd fun a h w _=>zcf f a.1 a.2.1 a.2.2 w h)
theorem zwu {s:List UInt8}(h:(tokR s).2.2=0):KindOk (tokR s).1:=fun x hx=>by have:=((z7i h).1 x hx).1;omega
set_option maxHeartbeats 8000000 in
set_option maxRecDepth 100000 in
theorem rparse_con {Φ:World→Prop}(s:ByteArray):Con Tryz.prog Φ 6 [.sc (.string s)]
 (.tup [.agg [.ro ((z2v s.data.toList).1.map encN)],.sc (.int .i64 (z2v s.data.toList).2.1),.sc (.int .i64 (z2v s.data.toList).2.2)]) []:=by
 obtain⟨R,hR⟩:∃R,R=z2v s.data.toList:=⟨_,rfl⟩;rw[←hR];have hR1:=hR;unfold z2v at hR1;obtain⟨X,hX⟩:∃X,X=(tokR s.data.toList).1:=⟨_,rfl⟩;obtain⟨p,hp⟩:∃p,p=(tokR s.data.toList).2.1:=⟨_,rfl⟩;obtain⟨er,her⟩:∃er,er=(tokR s.data.toList).2.2:=⟨_,rfl⟩;rw[←hp,←her,←hX] at hR1;have htk:tokR s.data.toList=(X,p,er):=by rw[hX,hp,her]
 refine zba (sp:=spP ((z4s X).length+1)) [(5,mcM),(7,mcM),(9,mcM),(11,mcM),(13,mcM),(8,[(9,[2,3,4,6,7,8])]),(10,[(9,[2,3,4,6,7,8])]),(14,[(9,[2,3,4,6,7,8])])] (fun w _=>zxz w) (by kernel_rfl) Tryz.func6 rfl ?_;intro _;simp only[Tryz.ntmps6];simp only[List.length_cons,List.length_nil,Nat.reduceAdd,Nat.reduceSub,List.replicate_succ,List.replicate_zero,List.cons_append,List.nil_append];by_cases he:er≠0
 · rw[if_pos he] at hR1;have c1:(er !=0)=true:=by rw[bne_iff_ne];exact he
   subst hR1;simp (maxSteps:=2000000) only[↓awA,awB,evA,envE,ofV,putE,z00,setRow,spl,oneP,z0f,frzA,mapO,z0p,z0a,z06,z07,z0q,z0v,scA,Row.len,z0i,rep,z09,z05,Value.oneCell',seval,tys,  ↓awC,awD,z1a,addU,refsA,refsA.refsL,z33,posI,getI,z13,renO,renR,z1g,z0w,z0e,getI,Nat.reduceBEq,  z3p,htk,c1,zcg,Tryz.results6]
 rw[if_neg he] at hR1;have he0:er=0:=Classical.not_not.mp he;have her0:(tokR s.data.toList).2.2=0:=by rw[←her];exact he0
 have c1:(er !=0)=false:=by rw[he0];rfl
 obtain⟨f1,f2,f3⟩:=z7i her0;rw[←hX] at f1 f2 f3;have hko:=zwu her0;rw[←hX] at hko;rw[zqa _ _ hko] at hR1;have hsz:s.data.toList.length=s.size:=Array.length_toList;rw[hsz] at hR1;have ht:z2j X≤1000000:=by rw[zhl];omega
 have hat:∀x∈X,(z01 x).length≤1000000:=fun x hx=>by unfold z01;rw[List.length_map];have:=(f1 x hx).2;omega
 obtain⟨k,hk1,hk2⟩:=z9w X;have hk3:(z4s X).length=X.length - k:=by rw[hk2,List.length_drop]
 have hbk:BkOk ⟨X,0,[],0,0,s.size⟩:=⟨ht,Nat.zero_le _,by show X.length≤1000000;omega⟩;have hskip:RS.skip ⟨X,0,[],0,0,s.size⟩=⟨X,k,[],0,0,s.size⟩:=by unfold RS.skip;simp only[List.drop_zero,hk3];congr 1;omega
 have hbl:∀f,(spP f).callM 20 [.ptr 0 0]
  [.var [.ro (X.map z0r),.sc (.int .i64 0),.sc (.slice none 0 0),.sc (.int .i64 0),.sc (.int .i64 0),.sc (.int .i64 (s.size:Int))] 60]=some (BkOk ⟨X,0,[],0,0,s.size⟩,.sc undef,RS.rows ⟨X,k,[],0,0,s.size⟩):=fun f=>by
  rw[←hskip];exact zj6 (i:=0)
 have hfl:∀f,(spP f).callM 21 [.ptr 0 0,.sc (.int .i64 50)]
  [.var [.ro (X.map z0r),.sc (.int .i64 (k:Int)),.sl 1 0,.sc (.int .i64 0),.sc (.int .i64 0),.sc (.int .i64 (s.size:Int))] 60,.lst 7 [] 79]=some (True,.sc (.bool false),(RS.fail ⟨X,k,[],0,0,s.size⟩ 50).rows):=fun f=>zhn (N:=[])
 have hel:∀f,(spP f).callM 22 [.ptr 0 0,.sc (.int .i64 (-1)),.sc (.int .i64 1)]
  [.var [.ro (X.map z0r),.sc (.int .i64 (k:Int)),.sl 1 0,.sc (.int .i64 0),.sc (.int .i64 0),.sc (.int .i64 (s.size:Int))] 60,.lst 7 [] 79]=
  some (ElOk ⟨X,k,[],0,0,s.size⟩ 1 f,resV (z3o ⟨X,k,[],0,0,s.size⟩ (-1) 1 f),resR ⟨X,k,[],0,0,s.size⟩ (z3o ⟨X,k,[],0,0,s.size⟩ (-1) 1 f)):=fun f=>zj5 (N:=[]) (d:=1)
 unfold refM at hR1
 cases hsk:z4s X with
 |nil=>
  rw[hsk] at hR1 hk3;simp only at hR1;have hkl:k=X.length:=by simp only[List.length_nil] at hk3;omega
  have e5:X[k]? =none:=List.getElem?_eq_none (by omega);have c5:((k:Int)==(X.length:Int))=true:=by rw[hkl];simp
  subst hR1;simp (maxSteps:=2000000) only[↓awA,awB,evA,envE,ofV,putE,z00,setRow,spl,oneP,z0f,frzA,mapO,z0p,z0a,z06,z07,z0q,z0v,scA,Row.len,z0i,rep,z09,z05,Value.oneCell',seval,tys,  ↓awC,awD,z1a,addU,refsA,refsA.refsL,z33,posI,getI,z13,renO,renR,z1g,z0w,z0e,getI,Nat.reduceBEq,  z3p,htk,c1,zcg,hbl,hbk,RS.rows,c5,hfl,RS.fail,e5,Tryz.results6];exact z1s (by kernel_rfl)
 |cons x l=>
  rw[hsk] at hR1 hk3 hk2;simp only at hR1;have hkl:k<X.length:=by simp only[List.length_cons] at hk3;omega
  obtain⟨e5, -⟩:X[k]? =some x∧True:=⟨by rw[←List.head?_drop,←hk2];rfl,trivial⟩;have e6:at_ (X.map z0r) k=z0r x:=z58 e5;have c5:((k:Int)==(X.length:Int))=false:=by rw[beq_eq_false_iff_ne];omega
  by_cases k2:x.kind=2
  · rw[if_pos (.inl k2)] at hR1;have c6:((x.kind:Int)==2)=true:=by rw[k2];rfl
    subst hR1;simp (maxSteps:=2000000) only[↓awA,awB,evA,envE,ofV,putE,z00,setRow,spl,oneP,z0f,frzA,mapO,z0p,z0a,z06,z07,z0q,z0v,scA,Row.len,z0i,rep,z09,z05,Value.oneCell',seval,tys,  ↓awC,awD,z1a,addU,refsA,refsA.refsL,z33,posI,getI,z13,renO,renR,z1g,z0w,z0e,getI,Nat.reduceBEq,  z3p,htk,c1,zcg,hbl,hbk,RS.rows,c5,e6,z0r,hkl,c6,hfl,RS.fail,e5,Tryz.results6];exact z1s (by kernel_rfl)
  have c6:((x.kind:Int)==2)=false:=by rw[beq_eq_false_iff_ne];omega
  by_cases k4:x.kind=4
  · rw[if_pos (.inr k4)] at hR1;have c7:((x.kind:Int)==4)=true:=by rw[k4];rfl
    subst hR1;simp (maxSteps:=2000000) only[↓awA,awB,evA,envE,ofV,putE,z00,setRow,spl,oneP,z0f,frzA,mapO,z0p,z0a,z06,z07,z0q,z0v,scA,Row.len,z0i,rep,z09,z05,Value.oneCell',seval,tys,  ↓awC,awD,z1a,addU,refsA,refsA.refsL,z33,posI,getI,z13,renO,renR,z1g,z0w,z0e,getI,Nat.reduceBEq,  z3p,htk,c1,zcg,hbl,hbk,RS.rows,c5,e6,z0r,hkl,c6,c7,hfl,RS.fail,e5,Tryz.results6];exact z1s (by kernel_rfl)
  have c7:((x.kind:Int)==4)=false:=by rw[beq_eq_false_iff_ne];omega
  rw[if_neg (fun h=>h.elim k2 k4)] at hR1;have helk:ElOk ⟨X,k,[],0,0,s.size⟩ 1 ((x::l).length+1):=⟨hkl,by omega,by simp,by show X.length - k≤_;omega,ht,by show X.length≤1000000;omega,hat⟩;have hre:z5g s.size ((x::l).length+1) (x::l) (-1) 1 0=z3o ⟨X,k,[],0,0,s.size⟩ (-1) 1 ((x::l).length+1):=by unfold z3o;simp only[←hk2];rfl
  have hleft:=z9v s.size ((x::l).length+1) (x::l) (-1) 1 0 (by omega);rw[hre] at hleft hR1
  cases hr:z3o ⟨X,k,[],0,0,s.size⟩ (-1) 1 ((x::l).length+1) with
  |inr pe=>obtain⟨p2,er2⟩:=pe;rw[hr] at hR1;simp only at hR1;subst hR1;simp only[List.length_cons] at hr helk;simp (maxSteps:=2000000) only[↓awA,awB,evA,envE,ofV,putE,z00,setRow,spl,oneP,z0f,frzA,mapO,z0p,z0a,z06,z07,z0q,z0v,scA,Row.len,z0i,rep,z09,z05,Value.oneCell',seval,tys,  ↓awC,awD,z1a,addU,refsA,refsA.refsL,z33,posI,getI,z13,renO,renR,z1g,z0w,z0e,getI,Nat.reduceBEq,  z3p,htk,c1,zcg,hbl,hbk,RS.rows,c5,e6,z0r,hkl,c6,c7,hel,helk,hr,resV,resR,RS.lost,Tryz.results6];exact z1s (by kernel_rfl)
  |inl sr=>
   obtain⟨sub,rest⟩:=sr;rw[hr] at hR1 hleft;simp only at hR1;obtain⟨⟨k',l1,l2,l3⟩,l4,l5⟩:=hleft;have hll:(x::l).length=X.length - k:=by rw[hk2,List.length_drop]
   have hrest:rest=X.drop (k+k'):=by rw[l3,hk2,List.drop_drop]
   have hi2:X.length - rest.length=k+k':=by rw[hrest,List.length_drop];omega
   have hrr:resR ⟨X,k,[],0,0,s.size⟩ (.inl (sub,rest))=RS.rows ⟨X,k+k',sub,0,0,s.size⟩:=by unfold resR;simp only[hi2,List.nil_append]
   obtain⟨k3,g1,g2⟩:=z9w rest;have g1':k3≤X.length - (k+k'):=by rw[hrest,List.length_drop] at g1;exact g1
   have g2':z4s rest=X.drop (k+k'+k3):=by rw[g2,hrest,List.drop_drop]
   obtain⟨j,hj⟩:∃j,j=k+k'+k3:=⟨_,rfl⟩;rw[←hj] at g2';have hskip2:RS.skip ⟨X,k+k',sub,0,0,s.size⟩=⟨X,j,sub,0,0,s.size⟩:=by unfold RS.skip;simp only[←hrest,g2',List.length_drop];congr 1;omega
   have hbk2:BkOk ⟨X,k+k',sub,0,0,s.size⟩:=⟨ht,by show k+k'≤X.length;omega,by show X.length≤1000000;omega⟩
   have hbl2:∀f,(spP f).callM 20 [.ptr 0 0]
    [.var [.ro (X.map z0r),.sc (.int .i64 ((k+k':Nat):Int)),.sl 1 sub.length,.sc (.int .i64 0),.sc (.int .i64 0),.sc (.int .i64 (s.size:Int))] 60,.lst 7 (sub.map encN) 79]=some (BkOk ⟨X,k+k',sub,0,0,s.size⟩,.sc undef,RS.rows ⟨X,j,sub,0,0,s.size⟩):=fun f=>by
    rw[←hskip2];exact zmo
   simp only[List.length_cons] at hr helk
   cases hsk2:z4s rest with
   |nil=>
    rw[hsk2] at hR1 g2';simp only at hR1;have hjl:X.length≤j:=by have:=congrArg List.length g2';rw[List.length_drop] at this;simp only[List.length_nil] at this;omega
    have c8:¬j<X.length:=by omega
    subst hR1;simp (maxSteps:=2000000) only[↓awA,awB,evA,envE,ofV,putE,z00,setRow,spl,oneP,z0f,frzA,mapO,z0p,z0a,z06,z07,z0q,z0v,scA,Row.len,z0i,rep,z09,z05,Value.oneCell',seval,tys,  ↓awC,awD,z1a,addU,refsA,refsA.refsL,z33,posI,getI,z13,renO,renR,z1g,z0w,z0e,getI,Nat.reduceBEq,  z3p,htk,c1,zcg,hbl,hbk,RS.rows,c5,e6,z0r,hkl,c6,c7,hel,helk,hr,resV,hrr,hbl2,hbk2,c8,Tryz.results6]
   |cons y l'=>
    rw[hsk2] at hR1 g2';simp only at hR1;have hjl:j<X.length:=by have:=congrArg List.length g2';rw[List.length_drop] at this;simp only[List.length_cons] at this;omega
    have e8:X[j]? =some y:=by rw[←List.head?_drop,←g2'];rfl
    have hfl2:∀f,(spP f).callM 21 [.ptr 0 0,.sc (.int .i64 50)]
     [.var [.ro (X.map z0r),.sc (.int .i64 (j:Int)),.sl 1 sub.length,.sc (.int .i64 0),.sc (.int .i64 0),.sc (.int .i64 (s.size:Int))] 60,.lst 7 (sub.map encN) 79]=some (True,.sc (.bool false),(RS.fail ⟨X,j,sub,0,0,s.size⟩ 50).rows):=fun f=>zhn
    subst hR1;simp (maxSteps:=2000000) only[↓awA,awB,evA,envE,ofV,putE,z00,setRow,spl,oneP,z0f,frzA,mapO,z0p,z0a,z06,z07,z0q,z0v,scA,Row.len,z0i,rep,z09,z05,Value.oneCell',seval,tys,  ↓awC,awD,z1a,addU,refsA,refsA.refsL,z33,posI,getI,z13,renO,renR,z1g,z0w,z0e,getI,Nat.reduceBEq,  z3p,htk,c1,zcg,hbl,hbk,RS.rows,c5,e6,z0r,hkl,c6,c7,hel,helk,hr,resV,hrr,hbl2,hbk2,hjl,hfl2,RS.fail,e8,Tryz.results6];exact z1s (by kernel_rfl)
end Go.Proofs.YtnlacmnoocigiaaGreatDoor.Aw
