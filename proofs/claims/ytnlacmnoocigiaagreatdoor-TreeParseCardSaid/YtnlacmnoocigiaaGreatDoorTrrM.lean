/- the reference's tree: what its reader's functions do, walked abstractly: fails, blanks. -/
import Derived.Test.YtnlacmnoocigiaaGreatDoorAwThr
import Derived.Test.YtnlacmnoocigiaaGreatDoorTrpSs
import Derived.Test.YtnlacmnoocigiaaGreatDoorTrrAll
import Derived.Test.YtnlacmnoocigiaaGreatDoorRtkF
namespace Go.Proofs.YtnlacmnoocigiaaGreatDoor.Aw
open Go.RowKit Go.Lib
def z0r (x:Tok):List AV:=[.sc (.int .u8 (x.kind:Int)),.sc (.string (bs x.name)),.ro ((z01 x).map z9t),.sc (.string (bs x.text)),.sc (.int .i64 (x.at_:Int))]
structure RS where
 toks:List Tok
 i:Nat
 N:List NodeM
 a:Int
 e:Int
 n:Nat
def RS.rows (s:RS):List Row:=[.var [.ro (s.toks.map z0r),.sc (.int .i64 (s.i:Int)),.sl 1 s.N.length,.sc (.int .i64 s.a),.sc (.int .i64 s.e),.sc (.int .i64 (s.n:Int))] 60,.lst 7 (s.N.map encN) 79]
theorem zkx {l m:List UInt8}(h:bs l=bs m):l=m:=by unfold bs at h;simpa using h
theorem zhb {x y:z0b}(h:z9t x=z9t y):x=y:=by unfold z9t at h;simp only[List.cons.injEq,AV.sc.injEq,Value.string.injEq,and_true] at h;exact Prod.ext h.1 h.2
theorem zmn {x y:Tok}(h:z01 x=z01 y):x.attrs=y.attrs:=by unfold z01 at h;refine(List.map_inj_right (fun a b hab=> ?_)).1 h;simp only[Prod.mk.injEq] at hab;exact Prod.ext (zkx hab.1) (zkx hab.2)
theorem zqw {x y:Tok}(h:z0r x=z0r y):x=y:=by
 unfold z0r at h;simp only[List.cons.injEq,AV.sc.injEq,AV.ro.injEq,Value.string.injEq,Value.int.injEq,and_true,true_and] at h;obtain⟨h1,h2,h3,h4,h5⟩:=h;have h3:=zmn ((List.map_inj_right (fun a b hab=>zhb hab)).1 h3);have h2:=zkx h2;have h4:=zkx h4;have h1:=Int.ofNat_inj.1 h1;have h5:=Int.ofNat_inj.1 h5;cases x;cases y
 simp_all
theorem zu1 {x y:z0b}(h:encA x=encA y):x=y:=by unfold encA at h;simp only[List.cons.injEq,AV.sc.injEq,Value.string.injEq,and_true] at h;exact Prod.ext h.1 h.2
theorem zu2 {x y:NodeM}(h:encN x=encN y):x=y:=by
 unfold encN at h;simp only[List.cons.injEq,AV.sc.injEq,AV.ro.injEq,Value.string.injEq,Value.int.injEq,and_true,true_and] at h;obtain⟨h1,h2,h3,h4,h5,h6,h7⟩:=h;have h2:=(List.map_inj_right (fun a b hab=>zu1 hab)).1 h2;cases x;cases y
 simp_all
theorem RS.rows_inj {s t:RS}(h:s.rows=t.rows):s=t:=by
 unfold RS.rows at h;simp only[List.cons.injEq,Row.var.injEq,Row.lst.injEq,AV.sc.injEq,AV.ro.injEq,AV.sl.injEq,Value.int.injEq,and_true,true_and] at h;obtain⟨⟨h1,h2,h3,h4,h5,h6⟩,h7⟩:=h;have h1:=(List.map_inj_right (fun a b hab=>zqw hab)).1 h1;have h7:=(List.map_inj_right (fun a b hab=>zu2 hab)).1 h7;have h2:=Int.ofNat_inj.1 h2;have h6:=Int.ofNat_inj.1 h6;cases s;cases t
 simp_all
def Spec.pin (sp:Spec)(n:Nat):Spec:={sp with pins:=n}
theorem zqx {P:Program}{sp:Spec}{w:World}{fp:Nat→Prop}{n:Nat}(h:SpecOk P sp w fp):SpecOk P (sp.pin n) w fp:=⟨h.eqs,h.call,h.callM⟩
theorem z0t {sp:Spec}{n:Nat}:(sp.pin n).pins=n:=rfl
theorem zf3 {sp:Spec}{n:Nat}{f:FuncId}{args:List AV}:(sp.pin n).call f args=sp.call f args:=rfl
theorem zhc {sp:Spec}{n:Nat}{f:FuncId}{args:List AV}{rows:List Row}:(sp.pin n).callM f args rows=sp.callM f args rows:=rfl
theorem zce {s:RS}:∀K cs e,z00 s.rows K=.var cs e→K<1:=fun K cs e h=>by
 unfold z00 RS.rows at h
 match K with
 |0=>omega
 |1=>cases h
 |K+2=>simp at h
def RS.fail (s:RS)(er:Int):RS:={s with e:=er,a:=match s.toks[s.i]? with|some x=>x.at_|none=>s.n}
set_option maxHeartbeats 4000000 in
set_option maxRecDepth 100000 in
theorem zhd (s:RS)(er:Int)(w:World):ConMAt Tryz.prog w (fun _=>True) 21 [.ptr 0 0,.sc (.int .i64 er)] s.rows (.sc (.bool false)) (s.fail er).rows:=by
 refine z9d (sp:=spN.pin 1) (Φ:=fun _=>True) [] (fun w fp _ _=>zqx (zfc w)) (by kernel_rfl) Tryz.func21 rfl (by simp[z0t,pinR,RS.rows,z0e]) (by rw[z0t];exact zce) ?_ w trivial;intro _ _;simp only[Tryz.ntmps21];simp only[List.length_cons,List.length_nil,Nat.reduceAdd,Nat.reduceSub,List.replicate_succ,List.replicate_zero,List.cons_append,List.nil_append];unfold RS.fail RS.rows;by_cases hi:s.i<s.toks.length
 · have e1:s.toks[s.i]? =some s.toks[s.i]:=List.getElem?_eq_getElem hi;rw[e1];generalize s.toks[s.i]=x at*;have e2:at_ (s.toks.map z0r) s.i=z0r x:=z58 e1;simp (maxSteps:=2000000) only[↓awA,awB,evA,envE,ofV,putE,z00,setRow,spl,oneP,z0f,frzA,mapO,z0p,z0a,z06,z07,z0q,z0v,scA,Row.len,z0i,rep,z09,z05,Value.oneCell',seval,tys,  ↓awC,awD,z1a,addU,refsA,refsA.refsL,z33,posI,getI,z13,renO,renR,z1g,z0w,z0e,getI,Nat.reduceBEq,  hi,e2,z0r,Tryz.results21];repeat (first|refine And.intro (z1s (by kernel_rfl)) ?_|refine And.intro (z31 (by kernel_rfl)) ?_)
   simp[Weak,z1t,z1d,z1k,nilV,nilR,okA,z00,z16,pinR,z0e,z0t]
 · have e1:s.toks[s.i]? =none:=List.getElem?_eq_none (by omega);rw[e1];simp (maxSteps:=2000000) only[↓awA,awB,evA,envE,ofV,putE,z00,setRow,spl,oneP,z0f,frzA,mapO,z0p,z0a,z06,z07,z0q,z0v,scA,Row.len,z0i,rep,z09,z05,Value.oneCell',seval,tys,  ↓awC,awD,z1a,addU,refsA,refsA.refsL,z33,posI,getI,z13,renO,renR,z1g,z0w,z0e,getI,Nat.reduceBEq,  hi,Tryz.results21];repeat (first|refine And.intro (z1s (by kernel_rfl)) ?_|refine And.intro (z31 (by kernel_rfl)) ?_)
   simp[Weak,z1t,z1d,z1k,nilV,nilR,okA,z00,z16,pinR,z0e,z0t]
theorem bs_size (l:List UInt8):(bs l).size=l.length:=by unfold bs;simp[ByteArray.size]
theorem zhe (t:ByteArray)(ht:t.size≤maxLen)(w:World):zaw Tryz.prog w 43 [.sc (.string t)] (.sc (.bool (z23 t))) []:=by
 refine zs3 fun S vs hS hl hv=> ?_
 match vs,hl with
 |[v],_=>have e1:=(hv 0 _ v rfl rfl).sc_inv;subst e1;exact(zlx t w ht).mono fun e w' ⟨h1,h2⟩=>⟨h1,h2 ▸ Fr.refl _ _⟩
noncomputable def spB :Spec:=(spN.tell 43 (byC (zx8 cS cNil) cB (fun a=>a.1.size≤maxLen) (fun a=>z23 a.1))).pin 1
theorem zhf {t:ByteArray}:spB.call 43 [.sc (.string t)]=some (t.size≤maxLen,.sc (.bool (z23 t)),[]):=by unfold spB;rw[zf3,z8j];exact zx9 (A:=zx8 cS cNil) (F:=cB) (t,())
theorem zxx (w:World){fp:Nat→Prop}:SpecOk Tryz.prog spB w fp:=zqx (zdz (zfc w) (z2b Tryz.func43 (by kernel_rfl)) (zxa fun a h w _=>zhe a.1 h w))
theorem z6a :spB.pins=1:=rfl
def RS.skip (s:RS):RS:={s with i:=s.toks.length - (z4s (s.toks.drop s.i)).length}
set_option maxHeartbeats 4000000 in
set_option maxRecDepth 100000 in
theorem zdn (s:RS)(hs:z2j s.toks≤1000000)(hi:s.i≤s.toks.length)(hl:s.toks.length≤1000000)(w:World):ConMAt Tryz.prog w (fun _=>True) 20 [.ptr 0 0] s.rows (.sc undef) s.skip.rows:=by
 refine z9d (sp:=spB) (Φ:=fun _=>True) [] (fun w fp _ _=>zxx w) (by kernel_rfl) Tryz.func20 rfl (by simp[z6a,pinR,RS.rows,z0e]) (by rw[z6a];exact zce) ?_ w trivial;intro _ _;simp only[Tryz.ntmps20];simp only[List.length_cons,List.length_nil,Nat.reduceAdd,Nat.reduceSub,List.replicate_succ,List.replicate_zero,List.cons_append,List.nil_append];simp (maxSteps:=2000000) only[↓awA,awB,evA,envE,ofV,putE,z00,setRow,spl,oneP,z0f,frzA,mapO,z0p,z0a,z06,z07,z0q,z0v,scA,Row.len,z0i,rep,z09,z05,Value.oneCell',seval,tys,  ↓awC,awD,z1a,addU,refsA,refsA.refsL,z33,posI,getI,z13,renO,renR,z1g,z0w,z0e,getI,Nat.reduceBEq,  Tryz.results20];refine z7u (fun j:Nat=>[.ptr 0 0]++z16 46) (fun j=>RS.rows {s with i:=j}) (fun j=>j≤s.toks.length∧z4s (s.toks.drop j)=z4s (s.toks.drop s.i)) (fun j=>s.toks.length - j) s.i ?_ ⟨hi,rfl⟩ ?_ (fun j _=>by simp[z6a,pinR,RS.rows,z0e])
 · simp[Weak,z1t,z1d,z1k,nilV,nilR,okA,z00,z16,pinR,z0e,z0t,  RS.rows]
 rintro j ⟨hj,hk⟩;simp only[z16,List.replicate_succ,List.replicate_zero,List.cons_append,List.nil_append];by_cases hlt:j<s.toks.length
 · obtain⟨x,hx⟩:∃x,s.toks[j]? =some x:=⟨_,List.getElem?_eq_getElem hlt⟩;have e2:at_ (s.toks.map z0r) j=z0r x:=z58 hx;have hm:x∈s.toks:=List.mem_of_getElem? hx;have hz:(bs x.text).size≤maxLen:=by rw[bs_size];have:=zmm hm;unfold maxLen;omega
   have hd:s.toks.drop j=x::s.toks.drop (j+1):=by rw[List.drop_eq_getElem_cons hlt];rw[List.getElem?_eq_getElem hlt] at hx;rw[Option.some.inj hx]
   have hw:=z9b (n:=j) (by omega);have hstop:¬(x.kind=4∧z23 (bs x.text)=true)→s.skip.rows=RS.rows {s with i:=j}:=fun hn=>by unfold RS.skip;rw[←hk,hd,z4s,if_neg hn,←hd,List.length_drop];congr 2;omega
   by_cases h4:x.kind=4
   · have c4:((x.kind:Int)==4)=true:=by rw[h4];rfl
     cases hb:z23 (bs x.text)
     case true=>
      simp (maxSteps:=2000000) only[↓awA,awB,evA,envE,ofV,putE,z00,setRow,spl,oneP,z0f,frzA,mapO,z0p,z0a,z06,z07,z0q,z0v,scA,Row.len,z0i,rep,z09,z05,Value.oneCell',seval,tys,  ↓awC,awD,z1a,addU,refsA,refsA.refsL,z33,posI,getI,z13,renO,renR,z1g,z0w,z0e,getI,Nat.reduceBEq,  hlt,RS.rows,e2,z0r,c4,zhf,hz,hb,hw,Tryz.results20];repeat (first|refine And.intro (z1s (by kernel_rfl)) ?_|refine And.intro (z31 (by kernel_rfl)) ?_)
      refine z1f (j+1) ?_ ⟨by omega, ?_⟩ (by omega)
      · simp[Weak,z1t,z1d,z1k,nilV,nilR,okA,z00,z16,pinR,z0e,z0t,  z6a]
      · rw[←hk,hd,z4s,if_pos ⟨h4,hb⟩]
     rw[hstop (fun h=>by rw[hb] at h;exact absurd h.2 (by simp))];simp (maxSteps:=2000000) only[↓awA,awB,evA,envE,ofV,putE,z00,setRow,spl,oneP,z0f,frzA,mapO,z0p,z0a,z06,z07,z0q,z0v,scA,Row.len,z0i,rep,z09,z05,Value.oneCell',seval,tys,  ↓awC,awD,z1a,addU,refsA,refsA.refsL,z33,posI,getI,z13,renO,renR,z1g,z0w,z0e,getI,Nat.reduceBEq,  hlt,RS.rows,e2,z0r,c4,zhf,hz,hb,hw,Tryz.results20];repeat (first|refine And.intro (z1s (by kernel_rfl)) ?_|refine And.intro (z31 (by kernel_rfl)) ?_)
     simp[Weak,z1t,z1d,z1k,nilV,nilR,okA,z00,z16,pinR,z0e,z0t,  z6a]
   · have c4:((x.kind:Int)==4)=false:=by rw[beq_eq_false_iff_ne];omega
     rw[hstop (fun h=>h4 h.1)];simp (maxSteps:=2000000) only[↓awA,awB,evA,envE,ofV,putE,z00,setRow,spl,oneP,z0f,frzA,mapO,z0p,z0a,z06,z07,z0q,z0v,scA,Row.len,z0i,rep,z09,z05,Value.oneCell',seval,tys,  ↓awC,awD,z1a,addU,refsA,refsA.refsL,z33,posI,getI,z13,renO,renR,z1g,z0w,z0e,getI,Nat.reduceBEq,  hlt,RS.rows,e2,z0r,c4,hw,Tryz.results20];repeat (first|refine And.intro (z1s (by kernel_rfl)) ?_|refine And.intro (z31 (by kernel_rfl)) ?_)
     simp[Weak,z1t,z1d,z1k,nilV,nilR,okA,z00,z16,pinR,z0e,z0t,  z6a]
 · have hend:s.skip.rows=RS.rows {s with i:=j}:=by unfold RS.skip;rw[←hk,List.drop_of_length_le (by omega)];congr 2;show s.toks.length - 0=j;omega
   rw[hend];simp (maxSteps:=2000000) only[↓awA,awB,evA,envE,ofV,putE,z00,setRow,spl,oneP,z0f,frzA,mapO,z0p,z0a,z06,z07,z0q,z0v,scA,Row.len,z0i,rep,z09,z05,Value.oneCell',seval,tys,  ↓awC,awD,z1a,addU,refsA,refsA.refsL,z33,posI,getI,z13,renO,renR,z1g,z0w,z0e,getI,Nat.reduceBEq,  hlt,RS.rows,Tryz.results20];repeat (first|refine And.intro (z1s (by kernel_rfl)) ?_|refine And.intro (z31 (by kernel_rfl)) ?_)
   simp[Weak,z1t,z1d,z1k,nilV,nilR,okA,z00,z16,pinR,z0e,z0t,  z6a]
end Go.Proofs.YtnlacmnoocigiaaGreatDoor.Aw
