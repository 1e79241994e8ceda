/- the reference's tree: an element, read, walked abstractly. -/
import Derived.Test.YtnlacmnoocigiaaGreatDoorAwThr
import Derived.Test.YtnlacmnoocigiaaGreatDoorTrrM
namespace Go.Proofs.YtnlacmnoocigiaaGreatDoor.Aw
open Go.RowKit Go.Lib
theorem z9x {f:NodeM→NodeM}{L:List NodeM}{i:Nat}{y:NodeM}(h:L[i]? =some y):(L.map encN).set i (encN (f y))=(L.modify i f).map encN:=by
 apply List.ext_getElem?;intro k;rw[List.getElem?_set,List.getElem?_map,List.getElem?_map,List.getElem?_modify,List.length_map];by_cases hk:i=k
 · subst hk;have hi:i<L.length:=(List.getElem?_eq_some_iff.1 h).1;rw[if_pos rfl,if_pos hi,h];simp
 · rw[if_neg hk];cases L[k]? <;>simp[hk]
theorem zu3 {N acc sub:List NodeM}{last:Int}{m:Nat}(ha:0<acc.length)(h:last= -1∨((N.length:Int)≤last∧last<N.length+acc.length)):N++(z40 acc N.length last m++sub)=z27 (N++acc++sub) N.length last m:=by
 rw[←List.append_assoc,←zh3 h];unfold z27;by_cases e:last= -1
 · rw[if_pos e,if_pos e,z74 (fstN m) (N++acc) sub _ (by rw[Int.toNat_natCast,List.length_append];omega)]
 · rw[if_neg e,if_neg e,z74 (nxtN m) (N++acc) sub _ (by rw[List.length_append];omega)]
theorem zqy {N acc:List NodeM}{t:ByteArray}:N++z93 acc t=if z23 t=true then N++acc else(N++acc).modify N.length (txtN t):=by
 unfold z93;split
 · rfl
 · have:=z4i (txtN t) N acc 0;rw[Nat.add_zero] at this;exact this.symm
structure ElOk (s:RS)(deep f:Nat):Prop where
 i:s.i<s.toks.length
 d:deep≤65
 N:s.N.length≤4096
 f:s.toks.length - s.i≤f
 t:z2j s.toks≤1000000
 l:s.toks.length≤1000000
 a:∀x∈s.toks,(z01 x).length≤1000000
def z3o (s:RS)(parent:Int)(deep f:Nat):ResT:=z5g s.n f (s.toks.drop s.i) parent deep s.N.length
def resV :ResT→AV
 |.inr _=>.sc (.bool false)
 |.inl _=>.sc (.bool true)
def RS.lost (s:RS)(p er:Int):List Row:=[.var [.ro (s.toks.map z0r),.dead,.dead,.sc (.int .i64 p),.sc (.int .i64 er),.sc (.int .i64 (s.n:Int))] 60,.dead]
def resR (s:RS):ResT→List Row
 |.inr (p,er)=>s.lost p er
 |.inl (sub,rest)=>RS.rows {s with i:=s.toks.length - rest.length,N:=s.N++sub}
abbrev ElX :=RS×Int×Nat
def zqz (x:ElX):List AV×List Row:=([.ptr 0 0,.sc (.int .i64 x.2.1),.sc (.int .i64 (x.2.2:Int))],x.1.rows)
theorem zhg (x y:ElX)(h:zqz x=zqz y):x=y:=by unfold zqz at h;simp only[Prod.mk.injEq,List.cons.injEq,AV.sc.injEq,Value.int.injEq,and_true,true_and] at h;obtain⟨⟨h1,h2⟩,h3⟩:=h;have h2:=Int.ofNat_inj.1 h2;have h3:=RS.rows_inj h3;exact Prod.ext h3 (Prod.ext h1 h2)
def zr0 (x:RS×Int):List AV×List Row:=([.ptr 0 0,.sc (.int .i64 x.2)],x.1.rows)
theorem zhh (x y:RS×Int)(h:zr0 x=zr0 y):x=y:=by unfold zr0 at h;simp only[Prod.mk.injEq,List.cons.injEq,AV.sc.injEq,Value.int.injEq,and_true,true_and] at h;exact Prod.ext (RS.rows_inj h.2) h.1
def zu4 (L:List z0b):List AV:=[.ro (L.map z9t)]
theorem zr1 (x y:List z0b)(h:zu4 x=zu4 y):x=y:=by unfold zu4 at h;simp only[List.cons.injEq,AV.ro.injEq,and_true] at h;exact(List.map_inj_right (fun a b hab=>zhb hab)).1 h
def zf4 (L:List z0b):AV:=if dupA L then .tup [.ro [],.sc (.bool false)] else .tup [.ro ((z5f L).map encA),.sc (.bool true)]
def zr2 (t:ByteArray):List AV:=[.sc (.string t)]
theorem zhi (x y:ByteArray)(h:zr2 x=zr2 y):x=y:=by unfold zr2 at h;simpa using h
noncomputable def spE (f:Nat):Spec:=
 ((((spN.tell 43 (byE zr2 (fun t=>t.size≤maxLen) (fun t=>.sc (.bool (z23 t))))).tell
   44 (byE zu4 (fun L=>L.length≤1000000) zf4)).tellM
   21 (byX zr0 (fun _=>True) (fun _=>.sc (.bool false)) (fun x=>(x.1.fail x.2).rows))).tellM
   22 (byX zqz (fun x=>ElOk x.1 x.2.2 f) (fun x=>resV (z3o x.1 x.2.1 x.2.2 f)) (fun x=>resR x.1 (z3o x.1 x.2.1 x.2.2 f)))).pin 1
theorem zhj {f:Nat}{t:ByteArray}:(spE f).call 43 [.sc (.string t)]=some (t.size≤maxLen,.sc (.bool (z23 t)),[]):=by unfold spE;rw[zf3,z3g,z3g,zvj (by rfl),z8j];exact znp zhi t
theorem z5t {f:Nat}{L:List z0b}:(spE f).call 44 [.ro (L.map z9t)]=some (L.length≤1000000,zf4 L,[]):=by unfold spE;rw[zf3,z3g,z3g,z8j];exact znp zr1 L
theorem z7b {f:Nat}{X:List Tok}{i:Nat}{N:List NodeM}{a e:Int}{n:Nat}{er:Int}:(spE f).callM 21 [.ptr 0 0,.sc (.int .i64 er)]
 [.var [.ro (X.map z0r),.sc (.int .i64 (i:Int)),.sl 1 N.length,.sc (.int .i64 a),.sc (.int .i64 e),.sc (.int .i64 (n:Int))] 60,.lst 7 (N.map encN) 79]=some (True,.sc (.bool false),(RS.fail ⟨X,i,N,a,e,n⟩ er).rows):=by
 unfold spE;rw[zhc,z8k (by rfl),z4e];exact zct zhh ((⟨X,i,N,a,e,n⟩:RS),er)
theorem z8b {f:Nat}{X:List Tok}{i:Nat}{N:List NodeM}{a e:Int}{n:Nat}{p:Int}{d:Nat}:(spE f).callM 22 [.ptr 0 0,.sc (.int .i64 p),.sc (.int .i64 (d:Int))]
 [.var [.ro (X.map z0r),.sc (.int .i64 (i:Int)),.sl 1 N.length,.sc (.int .i64 a),.sc (.int .i64 e),.sc (.int .i64 (n:Int))] 60,.lst 7 (N.map encN) 79]=
 some (ElOk ⟨X,i,N,a,e,n⟩ d f,resV (z3o ⟨X,i,N,a,e,n⟩ p d f),resR ⟨X,i,N,a,e,n⟩ (z3o ⟨X,i,N,a,e,n⟩ p d f)):=by
 unfold spE;rw[zhc,z4e];exact zct zhg ((⟨X,i,N,a,e,n⟩:RS),p,d)
theorem z2r {f:Nat}:(spE f).pins=1:=rfl
theorem z6g {f:Nat}:(spE f).ms=[22,21]:=rfl
theorem zxy {f:Nat}(ih:∀(s:RS) (p:Int) (d:Nat) (w:World),ElOk s d f→ConMAt Tryz.prog w (fun _=>True) 22 [.ptr 0 0,.sc (.int .i64 p),.sc (.int .i64 (d:Int))] s.rows (resV (z3o s p d f)) (resR s (z3o s p d f)))(w:World){fp:Nat→Prop}:SpecOk Tryz.prog (spE f) w fp:=
 zqx (z8l (z8l (zdz (zdz (zfc w) (z2b Tryz.func43 (by kernel_rfl)) (znq fun a h w _=>zhe a h w))
  (z2b Tryz.func44 (by kernel_rfl)) (znq fun a h w _=>zmj (Φ:=fun _=>True) a h w trivial))
  (z2b Tryz.func21 (by kernel_rfl)) (zfd fun a _ w _=>zhd a.1 a.2 w))
  (z2b Tryz.func22 (by kernel_rfl)) (zfd fun a h w _=>ih a.1 a.2.1 a.2.2 w h))
set_option maxHeartbeats 8000000 in
set_option maxRecDepth 100000 in
theorem zhk (f:Nat)(ih:∀(s:RS) (p:Int) (d:Nat) (w:World),ElOk s d f→ConMAt Tryz.prog w (fun _=>True) 22 [.ptr 0 0,.sc (.int .i64 p),.sc (.int .i64 (d:Int))] s.rows (resV (z3o s p d f)) (resR s (z3o s p d f)))
 (s:RS) (parent:Int) (deep:Nat) (w:World) (h:ElOk s deep (f+1)):ConMAt Tryz.prog w (fun _=>True) 22 [.ptr 0 0,.sc (.int .i64 parent),.sc (.int .i64 (deep:Int))] s.rows (resV (z3o s parent deep (f+1))) (resR s (z3o s parent deep (f+1))):=by
 obtain⟨x,hx⟩:∃x,s.toks[s.i]? =some x:=⟨_,List.getElem?_eq_getElem h.i⟩;have hd:s.toks.drop s.i=x::s.toks.drop (s.i+1):=by rw[List.drop_eq_getElem_cons h.i];have:=hx;rw[List.getElem?_eq_getElem h.i] at this;rw[Option.some.inj this]
 have hm:x∈s.toks:=List.mem_of_getElem? hx;have e2:at_ (s.toks.map z0r) s.i=z0r x:=z58 hx;have hi:=h.i;have ha:=h.a x hm;obtain⟨R,hR⟩:∃R,R=z3o s parent deep (f+1):=⟨_,rfl⟩;have hR1:=hR;unfold z3o at hR1;rw[hd,z5g] at hR1;rw[←hR];refine z9d (sp:=spE f) (Φ:=fun _=>True) [(4,mcM),(6,mcM),(19,mcM),(26,mcM),(3000008,[(1,[])])] (fun w fp _ _=>zxy ih w) (by kernel_rfl) Tryz.func22 rfl (by simp[z2r,pinR,RS.rows,z0e]) (by rw[z2r];exact zce) ?_ w trivial;intro _ _;simp only[Tryz.ntmps22];simp only[List.length_cons,List.length_nil,Nat.reduceAdd,Nat.reduceSub,List.replicate_succ,List.replicate_zero,List.cons_append,List.nil_append];by_cases hdup:dupA (z01 x)
 · rw[if_pos hdup] at hR1;have hso:zf4 (z01 x)=.tup [.ro [],.sc (.bool false)]:=if_pos hdup;subst hR1;simp (maxSteps:=2000000) only[↓awA,awB,evA,envE,ofV,putE,z00,setRow,spl,oneP,z0f,frzA,mapO,z0p,z0a,z06,z07,z0q,z0v,scA,Row.len,z0i,rep,z09,z05,Value.oneCell',seval,tys,  ↓awC,awD,z1a,addU,refsA,refsA.refsL,z33,posI,getI,z13,renO,renR,z1g,z0w,z0e,getI,Nat.reduceBEq,  RS.rows,hi,e2,z0r,z5t,ha,hso,z6g,z7b,RS.fail,hx,resV,resR,RS.lost,Tryz.results22];repeat (first|refine And.intro (z1s (by kernel_rfl)) ?_|refine And.intro (z31 (by kernel_rfl)) ?_)
   simp[Weak,z1t,z1d,z1k,nilV,nilR,okA,z00,z16,pinR,z0e,z0t,  z2r]
 rw[if_neg hdup] at hR1;have hso:zf4 (z01 x)=.tup [.ro ((z5f (z01 x)).map encA),.sc (.bool true)]:=if_neg hdup;by_cases hlim:s.N.length=4096∨64<deep
 · rw[if_pos hlim] at hR1;subst hR1
   have c1:((s.N.length:Int)==4096)=true∨(((s.N.length:Int)==4096)=false∧decide ((deep:Int)>64)=true):=by
    by_cases e:s.N.length=4096
    · exact .inl (by rw[e];rfl)
    · exact .inr ⟨by rw[beq_eq_false_iff_ne];omega,by simp;omega⟩
   rcases c1 with c1|⟨c1,c2⟩
   · simp (maxSteps:=2000000) only[↓awA,awB,evA,envE,ofV,putE,z00,setRow,spl,oneP,z0f,frzA,mapO,z0p,z0a,z06,z07,z0q,z0v,scA,Row.len,z0i,rep,z09,z05,Value.oneCell',seval,tys,  ↓awC,awD,z1a,addU,refsA,refsA.refsL,z33,posI,getI,z13,renO,renR,z1g,z0w,z0e,getI,Nat.reduceBEq,  RS.rows,hi,e2,z0r,z5t,ha,hso,z6g,z7b,RS.fail,hx,resV,resR,RS.lost,c1,Tryz.results22];repeat (first|refine And.intro (z1s (by kernel_rfl)) ?_|refine And.intro (z31 (by kernel_rfl)) ?_)
     simp[Weak,z1t,z1d,z1k,nilV,nilR,okA,z00,z16,pinR,z0e,z0t,  z2r]
   · simp (maxSteps:=2000000) only[↓awA,awB,evA,envE,ofV,putE,z00,setRow,spl,oneP,z0f,frzA,mapO,z0p,z0a,z06,z07,z0q,z0v,scA,Row.len,z0i,rep,z09,z05,Value.oneCell',seval,tys,  ↓awC,awD,z1a,addU,refsA,refsA.refsL,z33,posI,getI,z13,renO,renR,z1g,z0w,z0e,getI,Nat.reduceBEq,  RS.rows,hi,e2,z0r,z5t,ha,hso,z6g,z7b,RS.fail,hx,resV,resR,RS.lost,c1,c2,Tryz.results22];repeat (first|refine And.intro (z1s (by kernel_rfl)) ?_|refine And.intro (z31 (by kernel_rfl)) ?_)
     simp[Weak,z1t,z1d,z1k,nilV,nilR,okA,z00,z16,pinR,z0e,z0t,  z2r]
 rw[if_neg hlim] at hR1;have c1:((s.N.length:Int)==4096)=false:=by rw[beq_eq_false_iff_ne];omega
 have c2:decide ((deep:Int)>64)=false:=decide_eq_false (by omega);have hN:=h.N;have hl:=h.l;obtain⟨M,hM⟩:∃M,M=s.N++[newN x parent]:=⟨_,rfl⟩;have hap:List.map encN s.N++[[.sc (.string (bs x.name)),.ro (List.map encA (z5f (z01 x))),.sc (.string ⟨#[]⟩),.sc (.int .i64 parent),.sc (.int .i64 (-1)),.sc (.int .i64 (-1)),.sc (.int .i64 (x.at_:Int))]]=List.map encN M:=by rw[hM,List.map_append];rfl
 have hb1:(s.N.length+1)*88≤140737488355328:=by omega
 have hw1:=z9b (n:=s.i) (by omega);by_cases h3:x.kind=3
 · rw[if_pos h3] at hR1;have c3:((x.kind:Int)==3)=true:=by rw[h3];rfl
   subst hR1;have hdl:s.toks.length - (List.drop (s.i+1) s.toks).length=s.i+1:=by rw[List.length_drop];omega
   simp (maxSteps:=2000000) only[↓awA,awB,evA,envE,ofV,putE,z00,setRow,spl,oneP,z0f,frzA,mapO,z0p,z0a,z06,z07,z0q,z0v,scA,Row.len,z0i,rep,z09,z05,Value.oneCell',seval,tys,  ↓awC,awD,z1a,addU,refsA,refsA.refsL,z33,posI,getI,z13,renO,renR,z1g,z0w,z0e,getI,Nat.reduceBEq,  RS.rows,hi,e2,z0r,z5t,ha,hso,z6g,resV,resR,c1,c2,c3,hap,hb1,hw1,hdl,←hM,Tryz.results22];repeat (first|refine And.intro (z1s (by kernel_rfl)) ?_|refine And.intro (z31 (by kernel_rfl)) ?_)
   simp[Weak,z1t,z1d,z1k,nilV,nilR,okA,z00,z16,pinR,z0e,z0t,  z2r]
 rw[if_neg h3] at hR1;have c3:((x.kind:Int)==3)=false:=by rw[beq_eq_false_iff_ne];omega
 simp (maxSteps:=2000000) only[↓awA,awB,evA,envE,ofV,putE,z00,setRow,spl,oneP,z0f,frzA,mapO,z0p,z0a,z06,z07,z0q,z0v,scA,Row.len,z0i,rep,z09,z05,Value.oneCell',seval,tys,  ↓awC,awD,z1a,addU,refsA,refsA.refsL,z33,posI,getI,z13,renO,renR,z1g,z0w,z0e,getI,Nat.reduceBEq,  RS.rows,hi,e2,z0r,z5t,ha,hso,z6g,c1,c2,c3,hap,hb1,hw1,Tryz.results22];repeat (first|refine And.intro (z1s (by kernel_rfl)) ?_|refine And.intro (z31 (by kernel_rfl)) ?_)
 rw[hM];clear hap hM M;have hd2:deep≤64:=by omega
 have hE:∀(i:Nat) (acc:List NodeM),z5g s.n f (s.toks.drop i) (s.N.length:Int) (deep+1) (s.N.length+acc.length)=z3o ⟨s.toks,i,s.N++acc,s.a,s.e,s.n⟩ (s.N.length:Int) (deep+1) f:=fun i acc=>by unfold z3o;rw[List.length_append]
 refine z7u (fun st:List NodeM×ByteArray×Int×Nat=>[.ptr 0 0,.dead,.sc (.int .i64 (deep:Int)),.dead,.dead,.dead,.dead,.ptr 2 0,.dead,.dead,.sc (.int .i64 (s.N.length:Int)),.sc (.string st.2.1),.sc (.int .i64 st.2.2.1)]++z16 204)
  (fun st=>[.var [.ro (s.toks.map z0r),.sc (.int .i64 (st.2.2.2:Int)),.sl 1 (s.N++st.1).length,.sc (.int .i64 s.a),.sc (.int .i64 s.e),.sc (.int .i64 (s.n:Int))] 60,.lst 7 ((s.N++st.1).map encN) 79,.var (z0r x) 63])
  (fun st=>(∃g,s.toks.length - st.2.2.2<g∧z6l (fun l m=>z5g s.n f l (s.N.length:Int) (deep+1) m) x s.N.length s.n g (s.toks.drop st.2.2.2) st.1 st.2.1 st.2.2.1=R)∧0<st.1.length∧s.N.length+st.1.length≤4096∧
   (st.2.2.1= -1∨((s.N.length:Int)≤st.2.2.1∧st.2.2.1<s.N.length+st.1.length))∧s.i<st.2.2.2∧st.2.2.2≤s.toks.length∧st.2.1.size+z2j (s.toks.drop st.2.2.2)≤1000000)
  (fun st=>s.toks.length - st.2.2.2) ([newN x parent],⟨#[]⟩, -1,s.i+1) ?_ ⟨⟨(s.toks.drop (s.i+1)).length+1,by show s.toks.length - (s.i+1)<_;rw[List.length_drop];omega,hR1.symm⟩,by simp,by simp;omega,.inl rfl,Nat.lt_succ_self _,hi, ?_⟩ ?_ (fun st _=>by simp[z2r,pinR,z0e])
 · simp[Weak,z1t,z1d,z1k,nilV,nilR,okA,z00,z16,pinR,z0e,z0t,  z0r]
 · have:=zcd s.toks (s.i+1);have:=h.t;show 0+z2j (s.toks.drop (s.i+1))≤1000000;omega
 rintro⟨acc,text,last,i⟩ ⟨⟨g,hg1,hg2⟩,ha0,hal,hlast,hsi,hil,htx⟩;simp only at hg1 hg2 ha0 hal hlast hsi hil htx;simp only[z16,List.replicate_succ,List.replicate_zero,List.cons_append,List.nil_append];obtain⟨g,rfl⟩:∃g',g=g'+1:=⟨g - 1,by omega⟩;obtain⟨L,hL⟩:∃L,L=s.N++acc:=⟨_,rfl⟩;have hLl:L.length=s.N.length+acc.length:=by rw[hL,List.length_append]
 rw[←hL];by_cases hii:¬i<s.toks.length
 · rw[List.drop_of_length_le (by omega),z6l] at hg2;subst hg2;have e5:s.toks[i]? =none:=List.getElem?_eq_none (by omega);have c5:((i:Int)==(s.toks.length:Int))=true:=by rw[show i=s.toks.length by omega];simp
   simp (maxSteps:=2000000) only[↓awA,awB,evA,envE,ofV,putE,z00,setRow,spl,oneP,z0f,frzA,mapO,z0p,z0a,z06,z07,z0q,z0v,scA,Row.len,z0i,rep,z09,z05,Value.oneCell',seval,tys,  ↓awC,awD,z1a,addU,refsA,refsA.refsL,z33,posI,getI,z13,renO,renR,z1g,z0w,z0e,getI,Nat.reduceBEq,  hii,z6g,z7b,RS.fail,e5,c5,RS.rows,resV,resR,RS.lost,Tryz.results22];repeat (first|refine And.intro (z1s (by kernel_rfl)) ?_|refine And.intro (z31 (by kernel_rfl)) ?_)
   simp[Weak,z1t,z1d,z1k,nilV,nilR,okA,z00,z16,pinR,z0e,z0t,  z2r]
 have hii:i<s.toks.length:=Classical.not_not.mp hii;obtain⟨y,hy⟩:∃y,s.toks[i]? =some y:=⟨_,List.getElem?_eq_getElem hii⟩;have hdi:s.toks.drop i=y::s.toks.drop (i+1):=by rw[List.drop_eq_getElem_cons hii];have:=hy;rw[List.getElem?_eq_getElem hii] at this;rw[Option.some.inj this]
 have e6:at_ (s.toks.map z0r) i=z0r y:=z58 hy;have c5:((i:Int)==(s.toks.length:Int))=false:=by rw[beq_eq_false_iff_ne];omega
 have hw2:=z9b (n:=i) (by omega);rw[hdi,z6l] at hg2;have htd:z2j (s.toks.drop i)=y.text.length+z2j (s.toks.drop (i+1)):=by rw[hdi];rfl
 by_cases k2:y.kind=2
 · rw[if_pos k2] at hg2;have c6:((y.kind:Int) !=2)=false:=by rw[k2];rfl
   by_cases hnm:bs y.name≠bs x.name
   · rw[if_pos hnm] at hg2;subst hg2;have c7:decide (bs y.name=bs x.name)=false:=decide_eq_false hnm;simp (maxSteps:=2000000) only[↓awA,awB,evA,envE,ofV,putE,z00,setRow,spl,oneP,z0f,frzA,mapO,z0p,z0a,z06,z07,z0q,z0v,scA,Row.len,z0i,rep,z09,z05,Value.oneCell',seval,tys,  ↓awC,awD,z1a,addU,refsA,refsA.refsL,z33,posI,getI,z13,renO,renR,z1g,z0w,z0e,getI,Nat.reduceBEq,  hii,e6,z0r,c5,c6,c7,z6g,z7b,RS.fail,hy,RS.rows,resV,resR,RS.lost,Tryz.results22];repeat (first|refine And.intro (z1s (by kernel_rfl)) ?_|refine And.intro (z31 (by kernel_rfl)) ?_)
     simp[Weak,z1t,z1d,z1k,nilV,nilR,okA,z00,z16,pinR,z0e,z0t,  z2r]
   · rw[if_neg hnm] at hg2;subst hg2;have c7:decide (bs y.name=bs x.name)=true:=decide_eq_true (Classical.not_not.mp hnm);have hsz:text.size≤maxLen:=by unfold maxLen;omega
     have hdl:s.toks.length - (List.drop (i+1) s.toks).length=i+1:=by rw[List.length_drop];omega
     have hcl:=zqy (N:=s.N) (acc:=acc) (t:=text);rw[←hL] at hcl;cases hb:z23 text
     case true=>
      rw[hb,if_pos rfl] at hcl;simp (maxSteps:=2000000) only[↓awA,awB,evA,envE,ofV,putE,z00,setRow,spl,oneP,z0f,frzA,mapO,z0p,z0a,z06,z07,z0q,z0v,scA,Row.len,z0i,rep,z09,z05,Value.oneCell',seval,tys,  ↓awC,awD,z1a,addU,refsA,refsA.refsL,z33,posI,getI,z13,renO,renR,z1g,z0w,z0e,getI,Nat.reduceBEq,  hii,e6,z0r,c5,c6,c7,hw2,z6g,zhj,hsz,hb,RS.rows,resV,resR,hdl,hcl,Tryz.results22];repeat (first|refine And.intro (z1s (by kernel_rfl)) ?_|refine And.intro (z31 (by kernel_rfl)) ?_)
      simp[Weak,z1t,z1d,z1k,nilV,nilR,okA,z00,z16,pinR,z0e,z0t,  z2r]
     rw[hb,if_neg (by simp)] at hcl;obtain⟨z,hz⟩:∃z,L[s.N.length]? =some z:=⟨_,List.getElem?_eq_getElem (by omega)⟩;have e7:at_ (L.map encN) s.N.length=encN z:=z58 hz;have hst:=(z9x (f:=txtN text) hz).symm;rw[←hcl] at hst;have hbl:s.N.length<L.length:=by omega
     have hcll:(s.N++z93 acc text).length=L.length:=by rw[hcl,List.length_modify]
     simp (maxSteps:=2000000) only[↓awA,awB,evA,envE,ofV,putE,z00,setRow,spl,oneP,z0f,frzA,mapO,z0p,z0a,z06,z07,z0q,z0v,scA,Row.len,z0i,rep,z09,z05,Value.oneCell',seval,tys,  ↓awC,awD,z1a,addU,refsA,refsA.refsL,z33,posI,getI,z13,renO,renR,z1g,z0w,z0e,getI,Nat.reduceBEq,  hii,e6,z0r,c5,c6,c7,hw2,z6g,zhj,hsz,hb,e7,encN,hbl,RS.rows,resV,resR,hdl,hcll,hst,txtN,Tryz.results22];repeat (first|refine And.intro (z1s (by kernel_rfl)) ?_|refine And.intro (z31 (by kernel_rfl)) ?_)
     simp[Weak,z1t,z1d,z1k,nilV,nilR,okA,z00,z16,pinR,z0e,z0t,  z2r]
 rw[if_neg k2] at hg2;have c6:((y.kind:Int) !=2)=true:=by rw[bne_iff_ne];omega
 by_cases k4:y.kind=4
 · rw[if_pos k4] at hg2;have c8:((y.kind:Int)==4)=true:=by rw[k4];rfl
   have hsz:text.size+(bs y.text).size≤9223372036854775807:=by rw[bs_size];omega
   simp (maxSteps:=2000000) only[↓awA,awB,evA,envE,ofV,putE,z00,setRow,spl,oneP,z0f,frzA,mapO,z0p,z0a,z06,z07,z0q,z0v,scA,Row.len,z0i,rep,z09,z05,Value.oneCell',seval,tys,  ↓awC,awD,z1a,addU,refsA,refsA.refsL,z33,posI,getI,z13,renO,renR,z1g,z0w,z0e,getI,Nat.reduceBEq,  hii,e6,z0r,c6,c8,hw2,hsz];repeat (first|refine And.intro (z1s (by kernel_rfl)) ?_|refine And.intro (z31 (by kernel_rfl)) ?_)
   refine z1f (acc,text++bs y.text,last,i+1) ?_ ⟨⟨g,by show s.toks.length - (i+1)<g;omega,hg2⟩,ha0,hal,hlast,by show s.i<i+1;omega,hii, ?_⟩ (by show s.toks.length - (i+1)<s.toks.length - i;omega)
   · simp[Weak,z1t,z1d,z1k,nilV,nilR,okA,z00,z16,pinR,z0e,z0t,  hL,z0r]
   · show (text++bs y.text).size+z2j (s.toks.drop (i+1))≤1000000;rw[ByteArray.size_append,bs_size];omega
 rw[if_neg k4] at hg2;have c8:((y.kind:Int)==4)=false:=by rw[beq_eq_false_iff_ne];omega
 have hwd:=z9b (n:=deep) (by omega);have hel:ElOk ⟨s.toks,i,L,s.a,s.e,s.n⟩ (deep+1) f:=⟨hii,by omega,by show L.length≤4096;omega,by have:=h.f;show s.toks.length - i≤f;omega,h.t,h.l,h.a⟩;rw[←hdi,hE,←hL] at hg2;have hleft:=z9v s.n f (s.toks.drop i) (s.N.length:Int) (deep+1) L.length (by omega);have hle:z5g s.n f (s.toks.drop i) (s.N.length:Int) (deep+1) L.length=z3o ⟨s.toks,i,L,s.a,s.e,s.n⟩ (s.N.length:Int) (deep+1) f:=rfl;rw[hle] at hleft
 cases hr:z3o ⟨s.toks,i,L,s.a,s.e,s.n⟩ (s.N.length:Int) (deep+1) f with
 |inr pe=>
  obtain⟨p,er⟩:=pe;rw[hr] at hg2;subst hg2;simp (maxSteps:=2000000) only[↓awA,awB,evA,envE,ofV,putE,z00,setRow,spl,oneP,z0f,frzA,mapO,z0p,z0a,z06,z07,z0q,z0v,scA,Row.len,z0i,rep,z09,z05,Value.oneCell',seval,tys,  ↓awC,awD,z1a,addU,refsA,refsA.refsL,z33,posI,getI,z13,renO,renR,z1g,z0w,z0e,getI,Nat.reduceBEq,  hii,e6,z0r,c6,c8,hwd,z6g,z8b,hel,hr,resV,resR,RS.lost,Tryz.results22];repeat (first|refine And.intro (z1s (by kernel_rfl)) ?_|refine And.intro (z31 (by kernel_rfl)) ?_)
  simp[Weak,z1t,z1d,z1k,nilV,nilR,okA,z00,z16,pinR,z0e,z0t,  z2r]
 |inl sr=>
  obtain⟨sub,rest'⟩:=sr;rw[hr] at hg2 hleft;simp only at hg2;obtain⟨⟨k,l1,l2,l3⟩,l4,l5⟩:=hleft;rw[List.length_drop] at l2;have hrest:s.toks.length - rest'.length=i+k:=by rw[l3,List.drop_drop,List.length_drop];omega
  have hrd:rest'=s.toks.drop (i+k):=by rw[l3,List.drop_drop]
  obtain⟨M,hM⟩:∃M,M=L++sub:=⟨_,rfl⟩;have hMl:M.length=L.length+sub.length:=by rw[hM,List.length_append]
  have hlk:=zu3 (N:=s.N) (acc:=acc) (sub:=sub) (last:=last) (m:=L.length) ha0 hlast;rw[←hL,←hM] at hlk;rw[hrd,←hLl] at hg2;have hnext:s.toks.length - (i+k)<g:=by omega
  have htx2:text.size+z2j (s.toks.drop (i+k))≤1000000:=by have:=zcd (s.toks.drop i) k;rw[List.drop_drop] at this;omega
  have hlen2:(s.N++(z40 acc s.N.length last L.length++sub)).length=M.length:=by rw[hlk,zc5]
  have hpre:(∃g,s.toks.length - (i+k)<g∧z6l (fun l m=>z5g s.n f l (s.N.length:Int) (deep+1) m) x s.N.length s.n g (s.toks.drop (i+k)) (z40 acc s.N.length last L.length++sub) text (L.length:Int)=R)∧0<(z40 acc s.N.length last L.length++sub).length∧s.N.length+(z40 acc s.N.length last L.length++sub).length≤4096∧
   ((L.length:Int)= -1∨((s.N.length:Int)≤L.length∧(L.length:Int)<s.N.length+(z40 acc s.N.length last L.length++sub).length))∧s.i<i+k∧i+k≤s.toks.length∧text.size+z2j (s.toks.drop (i+k))≤1000000:=by
   have hq:(z40 acc s.N.length last L.length++sub).length=acc.length+sub.length:=by rw[List.length_append,z5r]
   exact⟨⟨g,hnext,hg2⟩,by omega,by omega,.inr ⟨by omega,by omega⟩,by omega,by omega,htx2⟩
  have hMid:RS.rows ⟨s.toks,i+k,M,s.a,s.e,s.n⟩=resR ⟨s.toks,i,L,s.a,s.e,s.n⟩ (.inl (sub,rest')):=by unfold resR;simp only[hrest,hM]
  by_cases hl1:last= -1
  · have hlk2:s.N++(z40 acc s.N.length last L.length++sub)=M.modify s.N.length (fstN L.length):=by rw[hlk];unfold z27;rw[if_pos hl1,Int.toNat_natCast]
    obtain⟨z,hz⟩:∃z,M[s.N.length]? =some z:=⟨_,List.getElem?_eq_getElem (by omega)⟩;have e7:at_ (M.map encN) s.N.length=encN z:=z58 hz;have hst:=(z9x (f:=fstN (L.length:Int)) hz).symm;rw[←hlk2] at hst;have hbl:s.N.length<M.length:=by omega
    have c9:decide ((-1:Int)<0)=true:=rfl;subst hl1;simp (maxSteps:=2000000) only[↓awA,awB,evA,envE,ofV,putE,z00,setRow,spl,oneP,z0f,frzA,mapO,z0p,z0a,z06,z07,z0q,z0v,scA,Row.len,z0i,rep,z09,z05,Value.oneCell',seval,tys,  ↓awC,awD,z1a,addU,refsA,refsA.refsL,z33,posI,getI,z13,renO,renR,z1g,z0w,z0e,getI,Nat.reduceBEq,  hii,e6,z0r,c6,c8,c9,hwd,z6g,z8b,hel,hr,resV,←hMid,RS.rows,e7,encN,hbl];repeat (first|refine And.intro (z1s (by kernel_rfl)) ?_|refine And.intro (z31 (by kernel_rfl)) ?_)
    refine z1f (z40 acc s.N.length (-1) L.length++sub,text,(L.length:Int),i+k) ?_ hpre (by show s.toks.length - (i+k)<s.toks.length - i;omega);simp[Weak,z1t,z1d,z1k,nilV,nilR,okA,z00,z16,pinR,z0e,z0t,  hst,hlen2,z0r,encN,fstN]
  · obtain⟨q,rfl⟩:∃q:Nat,last=(q:Int):=⟨last.toNat,by omega⟩;have hlk2:s.N++(z40 acc s.N.length (q:Int) L.length++sub)=M.modify q (nxtN L.length):=by rw[hlk];unfold z27;rw[if_neg hl1,Int.toNat_natCast]
    have hql:q<M.length:=by omega
    obtain⟨z,hz⟩:∃z,M[q]? =some z:=⟨_,List.getElem?_eq_getElem hql⟩;have e7:at_ (M.map encN) q=encN z:=z58 hz;have hst:=(z9x (f:=nxtN (L.length:Int)) hz).symm;rw[←hlk2] at hst;have c9:decide ((q:Int)<0)=false:=decide_eq_false (by omega);simp (maxSteps:=2000000) only[↓awA,awB,evA,envE,ofV,putE,z00,setRow,spl,oneP,z0f,frzA,mapO,z0p,z0a,z06,z07,z0q,z0v,scA,Row.len,z0i,rep,z09,z05,Value.oneCell',seval,tys,  ↓awC,awD,z1a,addU,refsA,refsA.refsL,z33,posI,getI,z13,renO,renR,z1g,z0w,z0e,getI,Nat.reduceBEq,  hii,e6,z0r,c6,c8,c9,hwd,z6g,z8b,hel,hr,resV,←hMid,RS.rows,e7,encN,hql];repeat (first|refine And.intro (z1s (by kernel_rfl)) ?_|refine And.intro (z31 (by kernel_rfl)) ?_)
    refine z1f (z40 acc s.N.length (q:Int) L.length++sub,text,(L.length:Int),i+k) ?_ hpre (by show s.toks.length - (i+k)<s.toks.length - i;omega);simp[Weak,z1t,z1d,z1k,nilV,nilR,okA,z00,z16,pinR,z0e,z0t,  hst,hlen2,z0r,encN,nxtN]
theorem zcf :∀(f:Nat) (s:RS) (parent:Int) (deep:Nat) (w:World),ElOk s deep f→ConMAt Tryz.prog w (fun _=>True) 22 [.ptr 0 0,.sc (.int .i64 parent),.sc (.int .i64 (deep:Int))] s.rows (resV (z3o s parent deep f)) (resR s (z3o s parent deep f))
 |0,s,_,_,_,h=>by have h1:=h.i;have h2:=h.f;omega
 |f+1,s,parent,deep,w,h=>zhk f (fun s p d w h=>zcf f s p d w h) s parent deep w h
end Go.Proofs.YtnlacmnoocigiaaGreatDoor.Aw
