/- tree: the law's same, walked abstractly. -/
import Derived.Test.YtnlacmnoocigiaaGreatDoorAwThr
import Derived.Test.YtnlacmnoocigiaaGreatDoorTyTrsE
import Derived.Test.YtnlacmnoocigiaaGreatDoorTreNo
import Derived.Test.YtnlacmnoocigiaaGreatDoorTrlEf
namespace Go.Proofs.YtnlacmnoocigiaaGreatDoor
def zr3 (at_:Bool)(x y:NodeM):Bool:=eqN x y && (!at_||(x.at_==y.at_))
theorem z1w (at_:Bool)(x y:NodeM):zr3 at_ x y=true↔x.name=y.name∧x.attrs=y.attrs∧x.text=y.text∧x.parent=y.parent∧x.first=y.first∧x.next=y.next∧(at_=true→x.at_=y.at_):=by unfold zr3 eqN eqL;rw[Aw.bytes_beq,Aw.bytes_beq];simp only[Bool.and_eq_true,decide_eq_true_eq,beq_iff_eq,Bool.or_eq_true,Bool.not_eq_true'];cases at_<;>simp[and_assoc]
def z7s (at_:Bool):List NodeM→List NodeM→Bool
 |x::a,y::b=>zr3 at_ x y && z7s at_ a b
 |_,_=>true
def zr4 (at_:Bool)(N M:List NodeM):Bool:=decide (N.length=M.length) && z7s at_ N M
theorem zj7 {at_:Bool}{N M:List NodeM}{k:Nat}(h1:k<N.length)(h2:k<M.length):z7s at_ (N.drop k) (M.drop k)=(zr3 at_ N[k] M[k] && z7s at_ (N.drop (k+1)) (M.drop (k+1))):=by rw[List.drop_eq_getElem_cons h1,List.drop_eq_getElem_cons h2,z7s]
end Go.Proofs.YtnlacmnoocigiaaGreatDoor
namespace Go.Proofs.YtnlacmnoocigiaaGreatDoor.Aw
open Go.RowKit Go.Lib
set_option maxHeartbeats 4000000 in
set_option maxRecDepth 100000 in
theorem same_con {Φ:World→Prop}(N M:List NodeM)(at_:Bool):Con Tryz.prog Φ 8 [.agg [.ro (N.map encN)],.agg [.ro (M.map encN)],.sc (.bool at_)] (.sc (.bool (zr4 at_ N M))) []:=by
 have hres:zr4 at_ N M=(decide (N.length=M.length) && z7s at_ N M):=rfl;rw[hres];refine zba [(6,[(12,[5,6,7,8,9])])] (fun w _=>zy0 w) (by kernel_rfl) Tryz.func8 rfl ?_;intro hlen;have hNM:∀L:List NodeM,ze7 6 (.agg [.ro (L.map encN)])→L.length≤9223372036854775807∧∀x∈L,x.attrs.length≤9223372036854775807:=fun L h=>by have h1:=h (.ro (L.map encN)) (by simp);refine⟨by simpa using h1.1,fun x hx=> ?_⟩;have h2:=h1.2 (encN x) (List.mem_map_of_mem hx) (.ro (x.attrs.map encA)) (by simp[encN]);simpa using h2.1
 obtain⟨hN1,hN2⟩:=hNM N (hlen _ (by simp));clear hNM hlen;simp only[Tryz.ntmps8];simp only[List.length_cons,List.length_nil,Nat.reduceAdd,Nat.reduceSub,List.replicate_succ,List.replicate_zero,List.cons_append,List.nil_append];by_cases hl:¬N.length=M.length
 · have hl2:((N.length:Int) !=M.length)=true:=by simp;omega
   simp (maxSteps:=2000000) only[↓awA,awB,evA,envE,ofV,putE,z00,setRow,spl,oneP,z0f,frzA,mapO,z0p,z0a,z06,z07,z0q,z0v,scA,Row.len,z0i,rep,z09,z05,Value.oneCell',seval,tys,  hl2,Tryz.results8];simp[hl]
 have hl:N.length=M.length:=Classical.not_not.mp hl;have hl2:((N.length:Int) !=M.length)=false:=by simp;omega
 simp (maxSteps:=2000000) only[↓awA,awB,evA,envE,ofV,putE,z00,setRow,spl,oneP,z0f,frzA,mapO,z0p,z0a,z06,z07,z0q,z0v,scA,Row.len,z0i,rep,z09,z05,Value.oneCell',seval,tys,  hl2];rw[decide_eq_true hl,Bool.true_and]
 refine z7u (fun k:Nat=>[.dead,.dead,.sc (.bool at_),.ptr 0 0,.ptr 1 0,.dead,.dead,.sc (.int .i64 (k:Int))]++z16 97) (fun _=>[.var [.ro (N.map encN)] 25,.var [.ro (M.map encN)] 25])
  (fun k=>k≤N.length∧z7s at_ (N.drop k) (M.drop k)=z7s at_ N M) (fun k=>N.length - k) 0 ?_ ⟨Nat.zero_le _,rfl⟩ ?_
 · simp[Weak,z1t,z1d,z1k,okA,z00,z16]
 rintro k ⟨hk,hs⟩;simp only[z16,List.replicate_succ,List.replicate_zero,List.cons_append,List.nil_append];by_cases hlt:¬k<N.length
 · simp (maxSteps:=2000000) only[↓awA,awB,evA,envE,ofV,putE,z00,setRow,spl,oneP,z0f,frzA,mapO,z0p,z0a,z06,z07,z0q,z0v,scA,Row.len,z0i,rep,z09,z05,Value.oneCell',seval,tys,  hlt,Tryz.results8];rw[←hs,List.drop_of_length_le (by omega)];rfl
 have hlt:k<N.length:=Classical.not_not.mp hlt;have hlt2:k<M.length:=by omega
 rw[zj7 hlt hlt2] at hs;have hxa:=hN2 _ (List.getElem_mem hlt);generalize hx:N[k]=x at hs hxa;generalize hy:M[k]=y at hs;simp (maxSteps:=2000000) only[↓awA,awB,evA,envE,ofV,putE,z00,setRow,spl,oneP,z0f,frzA,mapO,z0p,z0a,z06,z07,z0q,z0v,scA,Row.len,z0i,rep,z09,z05,Value.oneCell',seval,tys,  hlt,hlt2,hx,hy,encN];refine⟨z1s (by kernel_rfl), ?_⟩;have hno:zr3 at_ x y=false→z7s at_ N M=false:=fun e=>by rw[←hs,e];rfl
 cases h1:decide (x.name=y.name)
 case false=>
  rw[hno (Bool.eq_false_iff.2 fun e=>absurd ((z1w _ _ _).1 e).1 (of_decide_eq_false h1))];simp (maxSteps:=2000000) only[↓awA,awB,evA,envE,ofV,putE,z00,setRow,spl,oneP,z0f,frzA,mapO,z0p,z0a,z06,z07,z0q,z0v,scA,Row.len,z0i,rep,z09,z05,Value.oneCell',seval,tys,  h1,Tryz.results8]
 cases h2:decide (x.text=y.text)
 case false=>
  rw[hno (Bool.eq_false_iff.2 fun e=>absurd ((z1w _ _ _).1 e).2.2.1 (of_decide_eq_false h2))];simp (maxSteps:=2000000) only[↓awA,awB,evA,envE,ofV,putE,z00,setRow,spl,oneP,z0f,frzA,mapO,z0p,z0a,z06,z07,z0q,z0v,scA,Row.len,z0i,rep,z09,z05,Value.oneCell',seval,tys,  h1,h2,Tryz.results8]
 cases h3:(x.parent !=y.parent)
 case true=>
  rw[hno (Bool.eq_false_iff.2 fun e=>absurd ((z1w _ _ _).1 e).2.2.2.1 (by simpa using h3))];simp (maxSteps:=2000000) only[↓awA,awB,evA,envE,ofV,putE,z00,setRow,spl,oneP,z0f,frzA,mapO,z0p,z0a,z06,z07,z0q,z0v,scA,Row.len,z0i,rep,z09,z05,Value.oneCell',seval,tys,  h1,h2,h3,Tryz.results8]
 cases h4:(x.first !=y.first)
 case true=>
  rw[hno (Bool.eq_false_iff.2 fun e=>absurd ((z1w _ _ _).1 e).2.2.2.2.1 (by simpa using h4))];simp (maxSteps:=2000000) only[↓awA,awB,evA,envE,ofV,putE,z00,setRow,spl,oneP,z0f,frzA,mapO,z0p,z0a,z06,z07,z0q,z0v,scA,Row.len,z0i,rep,z09,z05,Value.oneCell',seval,tys,  h1,h2,h3,h4,Tryz.results8]
 cases h5:(x.next !=y.next)
 case true=>
  rw[hno (Bool.eq_false_iff.2 fun e=>absurd ((z1w _ _ _).1 e).2.2.2.2.2.1 (by simpa using h5))];simp (maxSteps:=2000000) only[↓awA,awB,evA,envE,ofV,putE,z00,setRow,spl,oneP,z0f,frzA,mapO,z0p,z0a,z06,z07,z0q,z0v,scA,Row.len,z0i,rep,z09,z05,Value.oneCell',seval,tys,  h1,h2,h3,h4,h5,Tryz.results8]
 cases h6:((x.attrs.length:Int) !=y.attrs.length)
 case true=>
  rw[hno (Bool.eq_false_iff.2 fun e=>absurd (congrArg (fun l=>(List.length l:Int)) ((z1w _ _ _).1 e).2.1) (by simpa using h6))];simp (maxSteps:=2000000) only[↓awA,awB,evA,envE,ofV,putE,z00,setRow,spl,oneP,z0f,frzA,mapO,z0p,z0a,z06,z07,z0q,z0v,scA,Row.len,z0i,rep,z09,z05,Value.oneCell',seval,tys,  h1,h2,h3,h4,h5,h6,Tryz.results8]
 cases at_
 case true=>
  cases h7:(x.at_ !=y.at_)
  case true=>
   rw[hno (Bool.eq_false_iff.2 fun e=>absurd (((z1w _ _ _).1 e).2.2.2.2.2.2 rfl) (by simpa using h7))];simp (maxSteps:=2000000) only[↓awA,awB,evA,envE,ofV,putE,z00,setRow,spl,oneP,z0f,frzA,mapO,z0p,z0a,z06,z07,z0q,z0v,scA,Row.len,z0i,rep,z09,z05,Value.oneCell',seval,tys,  h1,h2,h3,h4,h5,h6,h7,Tryz.results8]
  simp (maxSteps:=2000000) only[↓awA,awB,evA,envE,ofV,putE,z00,setRow,spl,oneP,z0f,frzA,mapO,z0p,z0a,z06,z07,z0q,z0v,scA,Row.len,z0i,rep,z09,z05,Value.oneCell',seval,tys,  h1,h2,h3,h4,h5,h6,h7];have hal:x.attrs.length=y.attrs.length:=by have h:=h6;simp only[bne_eq_false_iff_eq] at h;omega
  refine z7u (fun j:Nat=>[.dead,.dead,.sc (.bool true),.ptr 0 0,.ptr 1 0,.dead,.dead,.sc (.int .i64 (k:Int)),.ptr 2 0,.ptr 3 0,.sc (.int .i64 (j:Int))]++z16 94)
   (fun _=>[.var [.ro (N.map encN)] 25,.var [.ro (M.map encN)] 25,
    .var [.sc (.string x.name),.ro (x.attrs.map encA),.sc (.string x.text),.sc (.int .i64 x.parent),.sc (.int .i64 x.first),.sc (.int .i64 x.next),.sc (.int .i64 x.at_)] 79,
    .var [.sc (.string y.name),.ro (y.attrs.map encA),.sc (.string y.text),.sc (.int .i64 y.parent),.sc (.int .i64 y.first),.sc (.int .i64 y.next),.sc (.int .i64 y.at_)] 79])
   (fun j=>j≤x.attrs.length∧x.attrs.take j=y.attrs.take j) (fun j=>x.attrs.length - j) 0 ?_ ⟨Nat.zero_le _,rfl⟩ ?_
  · simp[Weak,z1t,z1d,z1k,okA,z00,z16]
  rintro j ⟨hj,ht⟩;simp only[z16,List.replicate_succ,List.replicate_zero,List.cons_append,List.nil_append];by_cases hjl:¬j<x.attrs.length
  · simp (maxSteps:=2000000) only[↓awA,awB,evA,envE,ofV,putE,z00,setRow,spl,oneP,z0f,frzA,mapO,z0p,z0a,z06,z07,z0q,z0v,scA,Row.len,z0i,rep,z09,z05,Value.oneCell',seval,tys,  hjl];have hat:x.attrs=y.attrs:=by rw[List.take_of_length_le (by omega),List.take_of_length_le (by omega)] at ht;exact ht
    refine z1f (k+1) ?_ ⟨by omega, ?_⟩ (by omega)
    · have hwr:IntKind.i64.wrap ((k:Int)+1)=((k+1:Nat):Int):=by rw[IntWalk.i64_in _ (by omega)];omega
      rw[hwr];simp[Weak,z1t,z1d,z1k,okA,z00,z16]
    · rw[←hs,(z1w true x y).2 ⟨of_decide_eq_true h1,hat,of_decide_eq_true h2,by simpa using h3,by simpa using h4,by simpa using h5,fun _=>by simpa using h7⟩,Bool.true_and]
  have hjl:j<x.attrs.length:=Classical.not_not.mp hjl;have hjl2:j<y.attrs.length:=by omega
  have hnx:x.attrs[j]=y.attrs[j]→x.attrs.take (j+1)=y.attrs.take (j+1):=fun e=>by rw[List.take_succ_eq_append_getElem hjl,List.take_succ_eq_append_getElem hjl2,ht,e]
  have hnn:x.attrs[j]≠y.attrs[j]→x.attrs≠y.attrs:=fun e h=>e (by simp only[h]);generalize ha:x.attrs[j]=a at hnx hnn;generalize hb:y.attrs[j]=b at hnx hnn;cases hab:(decide (a.1=b.1) && decide (a.2=b.2))
  case false=>
   rw[hno (Bool.eq_false_iff.2 fun e=>hnn (fun e2=>by rw[e2] at hab;simp at hab) ((z1w _ _ _).1 e).2.1)];simp (maxSteps:=2000000) only[↓awA,awB,evA,envE,ofV,putE,z00,setRow,spl,oneP,z0f,frzA,mapO,z0p,z0a,z06,z07,z0q,z0v,scA,Row.len,z0i,rep,z09,z05,Value.oneCell',seval,tys,  hjl,hjl2,ha,hb,encA,zf5,hab,Tryz.results8];exact z1s (by kernel_rfl)
  simp (maxSteps:=2000000) only[↓awA,awB,evA,envE,ofV,putE,z00,setRow,spl,oneP,z0f,frzA,mapO,z0p,z0a,z06,z07,z0q,z0v,scA,Row.len,z0i,rep,z09,z05,Value.oneCell',seval,tys,  hjl,hjl2,ha,hb,encA,zf5,hab];refine⟨z1s (by kernel_rfl), ?_⟩;refine z1f (j+1) ?_ ⟨by omega,hnx (by simp only[Bool.and_eq_true,decide_eq_true_eq] at hab;exact Prod.ext hab.1 hab.2)⟩ (by omega);have hwr:IntKind.i64.wrap ((j:Int)+1)=((j+1:Nat):Int):=by rw[IntWalk.i64_in _ (by omega)];omega
  rw[hwr];simp[Weak,z1t,z1d,z1k,okA,z00,z16]
 simp (maxSteps:=2000000) only[↓awA,awB,evA,envE,ofV,putE,z00,setRow,spl,oneP,z0f,frzA,mapO,z0p,z0a,z06,z07,z0q,z0v,scA,Row.len,z0i,rep,z09,z05,Value.oneCell',seval,tys,  h1,h2,h3,h4,h5,h6];have hal:x.attrs.length=y.attrs.length:=by have h:=h6;simp only[bne_eq_false_iff_eq] at h;omega
 refine z7u (fun j:Nat=>[.dead,.dead,.sc (.bool false),.ptr 0 0,.ptr 1 0,.dead,.dead,.sc (.int .i64 (k:Int)),.ptr 2 0,.ptr 3 0,.sc (.int .i64 (j:Int))]++z16 94)
  (fun _=>[.var [.ro (N.map encN)] 25,.var [.ro (M.map encN)] 25,
   .var [.sc (.string x.name),.ro (x.attrs.map encA),.sc (.string x.text),.sc (.int .i64 x.parent),.sc (.int .i64 x.first),.sc (.int .i64 x.next),.sc (.int .i64 x.at_)] 79,
   .var [.sc (.string y.name),.ro (y.attrs.map encA),.sc (.string y.text),.sc (.int .i64 y.parent),.sc (.int .i64 y.first),.sc (.int .i64 y.next),.sc (.int .i64 y.at_)] 79])
  (fun j=>j≤x.attrs.length∧x.attrs.take j=y.attrs.take j) (fun j=>x.attrs.length - j) 0 ?_ ⟨Nat.zero_le _,rfl⟩ ?_
 · simp[Weak,z1t,z1d,z1k,okA,z00,z16]
 rintro j ⟨hj,ht⟩;simp only[z16,List.replicate_succ,List.replicate_zero,List.cons_append,List.nil_append];by_cases hjl:¬j<x.attrs.length
 · simp (maxSteps:=2000000) only[↓awA,awB,evA,envE,ofV,putE,z00,setRow,spl,oneP,z0f,frzA,mapO,z0p,z0a,z06,z07,z0q,z0v,scA,Row.len,z0i,rep,z09,z05,Value.oneCell',seval,tys,  hjl];have hat:x.attrs=y.attrs:=by rw[List.take_of_length_le (by omega),List.take_of_length_le (by omega)] at ht;exact ht
   refine z1f (k+1) ?_ ⟨by omega, ?_⟩ (by omega)
   · have hwr:IntKind.i64.wrap ((k:Int)+1)=((k+1:Nat):Int):=by rw[IntWalk.i64_in _ (by omega)];omega
     rw[hwr];simp[Weak,z1t,z1d,z1k,okA,z00,z16]
   · rw[←hs,(z1w false x y).2 ⟨of_decide_eq_true h1,hat,of_decide_eq_true h2,by simpa using h3,by simpa using h4,by simpa using h5,fun h=>by cases h⟩,Bool.true_and]
 have hjl:j<x.attrs.length:=Classical.not_not.mp hjl;have hjl2:j<y.attrs.length:=by omega
 have hnx:x.attrs[j]=y.attrs[j]→x.attrs.take (j+1)=y.attrs.take (j+1):=fun e=>by rw[List.take_succ_eq_append_getElem hjl,List.take_succ_eq_append_getElem hjl2,ht,e]
 have hnn:x.attrs[j]≠y.attrs[j]→x.attrs≠y.attrs:=fun e h=>e (by simp only[h]);generalize ha:x.attrs[j]=a at hnx hnn;generalize hb:y.attrs[j]=b at hnx hnn;cases hab:(decide (a.1=b.1) && decide (a.2=b.2))
 case false=>
  rw[hno (Bool.eq_false_iff.2 fun e=>hnn (fun e2=>by rw[e2] at hab;simp at hab) ((z1w _ _ _).1 e).2.1)];simp (maxSteps:=2000000) only[↓awA,awB,evA,envE,ofV,putE,z00,setRow,spl,oneP,z0f,frzA,mapO,z0p,z0a,z06,z07,z0q,z0v,scA,Row.len,z0i,rep,z09,z05,Value.oneCell',seval,tys,  hjl,hjl2,ha,hb,encA,zf5,hab,Tryz.results8];exact z1s (by kernel_rfl)
 simp (maxSteps:=2000000) only[↓awA,awB,evA,envE,ofV,putE,z00,setRow,spl,oneP,z0f,frzA,mapO,z0p,z0a,z06,z07,z0q,z0v,scA,Row.len,z0i,rep,z09,z05,Value.oneCell',seval,tys,  hjl,hjl2,ha,hb,encA,zf5,hab];refine⟨z1s (by kernel_rfl), ?_⟩;refine z1f (j+1) ?_ ⟨by omega,hnx (by simp only[Bool.and_eq_true,decide_eq_true_eq] at hab;exact Prod.ext hab.1 hab.2)⟩ (by omega);have hwr:IntKind.i64.wrap ((j:Int)+1)=((j+1:Nat):Int):=by rw[IntWalk.i64_in _ (by omega)];omega
 rw[hwr];simp[Weak,z1t,z1d,z1k,okA,z00,z16]
end Go.Proofs.YtnlacmnoocigiaaGreatDoor.Aw
namespace Go.Proofs.YtnlacmnoocigiaaGreatDoor
open Go.RowKit Go.Lib
namespace Aw
theorem VC.ro_inv {w:World}{S:Nat→Prop}{l:List (List AV)}{u:Value}(h:VC S w (.ro l) u):∃(sz:Nat) (hz:0<sz) (cs:List (Vec sz)),Rd (vecC sz hz) w S u cs∧l.length=cs.length∧(∀(i:Nat) (e:List AV),l[i]? =some e→e.length=sz)∧
 ∀(i j:Nat) (e:List AV) (c:Vec sz) (x:AV) (v:Value),l[i]? =some e→cs[i]? =some c→e[j]? =some x→c.1[j]? =some v→VC S w x v:=by
 cases h with
 |ro l sz hz cs u h1 h2 h3 h4=>exact⟨sz,hz,cs,h1,h2,h3,h4⟩
theorem rd_of {α β:Type}{D:Cod β}{C:Cod α}{w:World}{S:Nat→Prop}{v:Value}{cs:List α}{l:List β}(h:Rd C w S v cs)(hm:cs.map C.cells=l.map D.cells):Rd D w S v l:=by
 have hl:cs.length=l.length:=by simpa using congrArg List.length hm
 have hf:D.flat l=C.flat cs:=by unfold Cod.flat;rw[List.flatMap_def,List.flatMap_def,hm]
 obtain⟨A,cap,h1,h2,h3,h4,h5⟩:=h;refine⟨A,cap,by rw[←hl];exact h1,by rw[←hl];exact h2,h3,h4,fun h0=> ?_⟩;obtain⟨g,off,a1,a2,a3⟩:=h5 (by rw[hl];exact h0);exact⟨g,off,a1,a2,fun j u hj=>a3 j u (by rw[←hf];exact hj)⟩
theorem vc_ro_inv {α β:Type}{C:Cod α}{w:World}{S:Nat→Prop}{v:Value}{L:List β}{enc:β→List AV}(hl:∀x,(enc x).length=C.size)(R:β→α→Prop)
 (ho:∀x∈L,∀us:List Value,us.length=C.size→(∀(j:Nat) y u,(enc x)[j]? =some y→us[j]? =some u→VC S w y u)→∃y,C.cells y=us∧R x y) (h:VC S w (.ro (L.map enc)) v):
 ∃l:List α,Rd C w S v l∧l.length=L.length∧∀(i:Nat) x y,L[i]? =some x→l[i]? =some y→R x y:=by
 obtain⟨sz,hz,cs,h1,h2,h3,h4⟩:=VC.ro_inv h;rw[List.length_map] at h2
 have key:∀(L:List β) (cs:List (Vec sz)),L.length=cs.length→(∀x∈L,∀us:List Value,us.length=C.size→(∀(j:Nat) y u,(enc x)[j]? =some y→us[j]? =some u→VC S w y u)→∃y,C.cells y=us∧R x y)→
  (∀(i:Nat) (e:List AV),(L.map enc)[i]? =some e→e.length=sz)→(∀(i j:Nat) (e:List AV) (c:Vec sz) (x:AV) (v:Value),(L.map enc)[i]? =some e→cs[i]? =some c→e[j]? =some x→c.1[j]? =some v→VC S w x v)→
  ∃l:List α,cs.map (vecC sz hz).cells=l.map C.cells∧l.length=L.length∧∀(i:Nat) x y,L[i]? =some x→l[i]? =some y→R x y:=by
  intro L
  induction L with
  |nil=>
   intro cs h2 _ _ _
   cases cs with
   |nil=>exact⟨[],rfl,rfl,fun i x y h=>by simp at h⟩
   |cons=>simp at h2
  |cons x L ih=>
   intro cs h2 ho h3 h4
   cases cs with
   |nil=>simp at h2
   |cons c cs=>
    obtain⟨l,a1,a2,a3⟩:=ih cs (by simpa using h2) (fun x hx=>ho x (by simp[hx])) (fun i e he=>h3 (i+1) e (by simpa using he)) (fun i j e c x v b1 b2=>h4 (i+1) j e c x v (by simpa using b1) (by simpa using b2));have hsz:=h3 0 (enc x) rfl;obtain⟨y,b1,b2⟩:=ho x (by simp) c.1 (by rw[c.2.1,←hsz,hl]) (fun j z u b1 b2=>h4 0 j (enc x) c z u rfl rfl b1 b2);refine⟨y::l,by rw[List.map_cons,List.map_cons,a1,b1];rfl,by simp[a2],fun i x' y' c1 c2=> ?_⟩
    cases i with
    |zero=>cases c1;cases c2;exact b2
    |succ i=>exact a3 i x' y' (by simpa using c1) (by simpa using c2)
 obtain⟨l,a1,a2,a3⟩:=key L cs h2 ho h3 h4;exact⟨l,rd_of h1 a1,a2,a3⟩
theorem map_of {α β:Type}{f:α→β}:∀{l:List α} {L:List β},l.length=L.length→(∀(i:Nat) x y,L[i]? =some x→l[i]? =some y→f y=x)→l.map f=L
 |[],[],_,_=>rfl
 |[],_::_,h,_=>by simp at h
 |_::_,[],h,_=>by simp at h
 |y::l,x::L,h,hh=>by rw[List.map_cons,hh 0 x y rfl rfl,map_of (by simpa using h) (fun i x y h1 h2=>hh (i+1) x y (by simpa using h1) (by simpa using h2))]
theorem vc_attrs_inv {w:World}{S:Nat→Prop}{v:Value}{L:List z0b}(h:VC S w (.ro (L.map encA)) v):Rd pairC w S v L:=by
 obtain⟨l,h1,h2,h3⟩:=vc_ro_inv (C:=pairC) (enc:=encA) (fun x=>rfl) (fun x y=>y=x) (fun x hx us hl hv=>⟨x,by
  match us,hl with
  |[a,b],_=>have e1:=(hv 0 _ a rfl rfl).sc_inv;have e2:=(hv 1 _ b rfl rfl).sc_inv;subst e1 e2;rfl,rfl⟩) h
 have:l=L:=by
  have:=map_of (f:=id) h2 (fun i x y a b=>h3 i x y a b)
  rwa [List.map_id] at this
 rw[←this];exact h1
theorem vc_nodes_inv {w:World}{S:Nat→Prop}{v:Value}{N:List NodeM}(h:VC S w (.ro (N.map encN)) v):∃X,NodesRd w S v X∧X.map NodeX.model=N:=by
 obtain⟨l,h1,h2,h3⟩:=vc_ro_inv (C:=nodeC) (enc:=encN) (fun x=>rfl) (fun x y=>Rd pairC w S (.slice y.A y.m y.c) x.attrs∧(⟨y,none,x.attrs⟩:NodeX).model=x) (fun x hx us hl hv=>by
  match us,hl with
  |[a,b,c,d,e,f,g],_=>have e1:=(hv 0 _ a rfl rfl).sc_inv;have e2:=vc_attrs_inv (hv 1 _ b rfl rfl);have e3:=(hv 2 _ c rfl rfl).sc_inv;have e4:=(hv 3 _ d rfl rfl).sc_inv;have e5:=(hv 4 _ e rfl rfl).sc_inv;have e6:=(hv 5 _ f rfl rfl).sc_inv;have e7:=(hv 6 _ g rfl rfl).sc_inv;subst e1 e3 e4 e5 e6 e7;have e8:=e2;obtain⟨A,cap,rfl, -⟩:=e2;exact⟨⟨x.name,A,x.attrs.length,cap,x.text,x.parent,x.first,x.next,x.at_⟩,rfl,e8,rfl⟩) h
 refine⟨(l.zip N).map fun p=>⟨p.1,none,p.2.attrs⟩,⟨?_,fun x hx=> ?_⟩, ?_⟩
 · rw[List.map_map];have:(l.zip N).map (NodeX.v∘fun p=>(⟨p.1,none,p.2.attrs⟩:NodeX))=l:=by show (l.zip N).map (fun p=>p.1)=l;exact List.map_fst_zip (by omega)
   rw[this];exact h1
 · rw[List.mem_map] at hx;obtain⟨p,hp,rfl⟩:=hx;obtain⟨i,hi,hpi⟩:=List.getElem_of_mem hp;rw[List.getElem_zip] at hpi;subst hpi;simp only[List.length_zip] at hi;exact(h3 i N[i] l[i] (List.getElem?_eq_getElem (by omega)) (List.getElem?_eq_getElem (by omega))).1
 · rw[List.map_map];refine map_of (by simp[h2]) (fun i x p a b=> ?_);rw[List.getElem?_zip_eq_some] at b;have:=(h3 i x p.1 a b.1).2;rw[a] at b;obtain⟨-,hb⟩:=b;cases hb;exact this
end Aw
end Go.Proofs.YtnlacmnoocigiaaGreatDoor
