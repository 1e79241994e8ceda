/- Frames by a set of blocks, readable and owned slices of any flat element, and append on them. Over any program. -/
import Derived.Handy
import Derived.WalkSpells
import Derived.WalkLawsBesides
import Derived.Deep.QuietTactic
import Derived.BigQuiet
import Derived.Deep.Slices
import Derived.ChangeSame
namespace Go.Proofs.YtnlacmnoocigiaaGreatDoor
open Go.RowKit
theorem hide {p:Prop}(h:p):Hid p:=h
theorem z7o {P:Program}{f:FuncId}{args:Array Value}{w:World}{a n:Nat}{v:Value}
 (h:Calls P f args (w.drewN (a+n)) fun e w'=>e=.returned v∧w.drewN (a+n)=w'):Calls P f args (w.drewN (a+n)) fun e w''=>e=.returned v∧∃m,w''=w.drewN (a+m):=
 h.mono fun _ _ ⟨he,hm⟩=>⟨he,n,hm.symm⟩
theorem z1h {P:Program}{f:FuncId}{args:Array Value}{w:World}{n:Nat}{v:Value}
 (h:Calls P f args (w.drewN n) fun e w'=>e=.returned v∧w.drewN n=w'):Calls P f args (w.drewN n) fun e w''=>e=.returned v∧∃m,w''=w.drewN m:=
 h.mono fun _ _ ⟨he,hm⟩=>⟨he,n,hm.symm⟩
structure Fr (fp:Nat→Prop)(w w':World):Prop where
 os:w'.os=w.os
 tape:w'.tape=w.tape
 output:w'.output=w.output
 size:w.heap.size≤w'.heap.size
 block:∀k,k<w.heap.size→¬fp k→w'.heap[k]? =w.heap[k]?
namespace Fr
variable {fp fp' : Nat → Prop} {w w' w'' : World}
theorem refl (fp:Nat→Prop)(w:World):Fr fp w w:=⟨rfl,rfl,rfl,Nat.le_refl _,fun _ _ _=>rfl⟩
theorem trans (h:Fr fp w w')(h':Fr fp w' w''):Fr fp w w'':=⟨h'.os.trans h.os,h'.tape.trans h.tape,h'.output.trans h.output,Nat.le_trans h.size h'.size,fun k hk hn=>(h'.block k (Nat.lt_of_lt_of_le hk h.size) hn).trans (h.block k hk hn)⟩
theorem then_ (h:Fr fp w w')(h':Fr fp' w' w'')(hs:∀k,k<w.heap.size→fp' k→fp k):Fr fp w w'':=⟨h'.os.trans h.os,h'.tape.trans h.tape,h'.output.trans h.output,Nat.le_trans h.size h'.size,fun k hk hn=>(h'.block k (Nat.lt_of_lt_of_le hk h.size) (fun hf=>hn (hs k hk hf))).trans (h.block k hk hn)⟩
theorem mono (h:Fr fp w w')(hs:∀k,fp k→fp' k):Fr fp' w w':=⟨h.os,h.tape,h.output,h.size,fun k hk hn=>h.block k hk (fun hf=>hn (hs k hf))⟩
theorem monoLt (h:Fr fp w w')(hs:∀k,k<w.heap.size→fp k→fp' k):Fr fp' w w':=⟨h.os,h.tape,h.output,h.size,fun k hk hn=>h.block k hk (fun hf=>hn (hs k hk hf))⟩
theorem drew (h:Fr fp w w'):Fr fp w w'.drew:=⟨h.os,h.tape,h.output,h.size,h.block⟩
theorem drewN (h:Fr fp w w')(n:Nat):Fr fp w (w'.drewN n):=⟨h.os,h.tape,h.output,h.size,h.block⟩
theorem alloc (h:Fr fp w w')(o:Obj):Fr fp w (w'.alloc o):=⟨h.os,h.tape,h.output,Nat.le_trans h.size (by simp),fun k hk hn=>(Below.heap_alloc w' o k (Nat.lt_of_lt_of_le hk h.size)).trans (h.block k hk hn)⟩
theorem setCell (h:Fr fp w w'){p:Addr}(hp:fp p.block∨w.heap.size≤p.block)(u:Value):Fr fp w (w'.setCell p u):=
 ⟨h.os,h.tape,h.output,by simpa [World.setCell] using h.size,fun k hk hn=>(Below.heap_setCell w' p u k (by
  rintro rfl;rcases hp with hp|hp
  · exact hn hp
  · omega)).trans (h.block k hk hn)⟩
theorem setRow (h:Fr fp w w'){g:Nat}(hp:fp g∨w.heap.size≤g)(cs:Array Value):Fr fp w (w'.setRow g cs):=
 ⟨h.os,h.tape,h.output,by simpa using h.size,fun k hk hn=>(setRow_other w' g k cs (by
  rintro rfl;rcases hp with hp|hp
  · exact hn hp
  · omega)).trans (h.block k hk hn)⟩
theorem of_below {B:Nat}(h:Below B w w')(hf:∀k,k<w.heap.size→B≤k→fp k):Fr fp w w':=⟨h.os,h.tape,h.output,h.size,fun k hk hn=>h.block k (by rcases Nat.lt_or_ge k B with h1|h1;exact h1;exact absurd (hf k hk h1) hn)⟩
theorem below (h:Fr fp w w'){B:Nat}(hB:B≤w.heap.size)(hf:∀k,k<B→¬fp k):Below B w w':=⟨h.os,h.tape,h.output,h.size,fun k hk=>h.block k (Nat.lt_of_lt_of_le hk hB) (hf k hk)⟩
theorem cell (h:Fr fp w w'){p:Addr}(hp:p.block<w.heap.size)(hn:¬fp p.block):w'.cell? p=w.cell? p:=World.cell?_of_block (w:=w) (h.block p.block hp hn)
theorem frozen (h:Fr fp w w'){p:Addr}(hp:p.block<w.heap.size)(hn:¬fp p.block):w'.frozen? p=w.frozen? p:=World.frozen?_of_block (w:=w) (h.block p.block hp hn)
end Fr
structure Cod (α:Type) where
 size:Nat
 cells:α→List Value
 len:∀x,(cells x).length=size
 one:∀x,∀u∈cells x,u.oneCell'=true
 pos:0<size
namespace Cod
variable {α : Type} (C : Cod α)
def flat (l:List α):List Value:=l.flatMap C.cells
theorem flat_nil :C.flat []=[]:=rfl
theorem flat_append (l m:List α):C.flat (l++m)=C.flat l++C.flat m:=by simp[flat]
theorem flat_cons (x:α)(l:List α):C.flat (x::l)=C.cells x++C.flat l:=by simp[flat]
theorem flat_len (l:List α):(C.flat l).length=l.length*C.size:=by
 induction l with
 |nil=>simp[flat]
 |cons x l ih=>rw[flat_cons,List.length_append,C.len,ih,List.length_cons,Nat.add_mul,Nat.one_mul,Nat.add_comm]
theorem flat_one (l:List α):∀u∈C.flat l,u.oneCell'=true:=by intro u hu;simp only[flat,List.mem_flatMap] at hu;obtain⟨x,_,hx⟩:=hu;exact C.one x u hx
theorem flat_at (l:List α)(i j:Nat)(hi:i<l.length)(hj:j<C.size):(C.flat l)[i*C.size+j]? =(C.cells l[i])[j]? :=by
 induction l generalizing i with
 |nil=>simp at hi
 |cons x l ih=>
  rw[flat_cons]
  cases i with
  |zero=>rw[List.getElem?_append_left (by rw[C.len];omega)];simp
  |succ i=>rw[List.getElem?_append_right (by rw[C.len,Nat.add_mul];omega),C.len];have:=ih i (by simpa using hi);rw[show (i+1)*C.size+j - C.size=i*C.size+j from by rw[Nat.add_mul];omega,this];simp
theorem flat_take (l:List α)(n:Nat):(C.flat l).take (n*C.size)=C.flat (l.take n):=by
 induction l generalizing n with
 |nil=>simp[flat]
 |cons x l ih=>
  cases n with
  |zero=>simp[flat]
  |succ n=>
   rw[flat_cons,List.take_succ_cons,flat_cons,←ih n,List.take_append,C.len,Nat.add_mul,Nat.one_mul,
    show n*C.size+C.size - C.size=n*C.size from by omega,List.take_of_length_le (by rw[C.len];omega)]
theorem flat_drop (l:List α)(n:Nat):(C.flat l).drop (n*C.size)=C.flat (l.drop n):=by
 induction l generalizing n with
 |nil=>simp[flat]
 |cons x l ih=>
  cases n with
  |zero=>simp
  |succ n=>
   rw[flat_cons,List.drop_succ_cons,←ih n,List.drop_append,C.len,Nat.add_mul,Nat.one_mul,
    show n*C.size+C.size - C.size=n*C.size from by omega,List.drop_of_length_le (by rw[C.len];omega),List.nil_append]
end Cod
def Rd {α:Type}(C:Cod α)(w:World)(S:Nat→Prop)(v:Value)(l:List α):Prop:=
 ∃A cap,v=.slice A l.length cap∧l.length≤cap∧cap≤maxLen∧(A=none→cap=0)∧
  (0<l.length→∃g off,A=some ⟨g,off,none⟩∧S g∧∀j u,(C.flat l)[j]? =some u→w.cell? ⟨g,off+j,none⟩=some u)
namespace Rd
variable {α : Type} {C : Cod α} {w w' : World} {S S' : Nat → Prop} {v : Value} {l : List α}
theorem nil_ (C:Cod α)(w:World)(S:Nat→Prop):Rd C w S (.slice none 0 0) []:=⟨none,0,rfl,Nat.le_refl _,by simp[maxLen],fun _=>rfl,fun h=>absurd h (by simp)⟩
theorem keep (h:Rd C w S v l)(hk:∀k,S k→w'.heap[k]? =w.heap[k]?):Rd C w' S v l:=by obtain⟨A,cap,h1,h2,h3,h4,h5⟩:=h;refine⟨A,cap,h1,h2,h3,h4,fun hp=> ?_⟩;obtain⟨g,off,e,hg,hc⟩:=h5 hp;exact⟨g,off,e,hg,fun j u hu=>(World.cell?_of_block (w:=w) (hk g hg)).trans (hc j u hu)⟩
theorem mono (h:Rd C w S v l)(hs:∀k,S k→S' k):Rd C w S' v l:=by obtain⟨A,cap,h1,h2,h3,h4,h5⟩:=h;refine⟨A,cap,h1,h2,h3,h4,fun hp=> ?_⟩;obtain⟨g,off,e,hg,hc⟩:=h5 hp;exact⟨g,off,e,hs g hg,hc⟩
theorem fr {fp:Nat→Prop}(h:Rd C w S v l)(hf:Fr fp w w')(hs:∀k,S k→k<w.heap.size∧¬fp k):Rd C w' S v l:=h.keep fun k hk=>hf.block k (hs k hk).1 (hs k hk).2
theorem below {B:Nat}(h:Rd C w (· <B) v l)(hf:Below B w w'):Rd C w' (· <B) v l:=h.keep fun k hk=>hf.block k hk
theorem at_ {i:Nat}(h:Rd C w S v l)(hi:i<l.length):∃g off cap,v=.slice (some ⟨g,off,none⟩) l.length cap∧l.length≤cap∧cap≤maxLen∧S g∧
 ∀j (_:j<C.size),w.cell? ⟨g,off+(i*C.size+j),none⟩=(C.cells l[i])[j]? :=by
 obtain⟨A,cap,h1,h2,h3,h4,h5⟩:=h;obtain⟨g,off,rfl,hg,hc⟩:=h5 (by omega);refine⟨g,off,cap,h1,h2,h3,hg,fun j hj=> ?_⟩
 have hl:i*C.size+j<(C.flat l).length:=by
  rw[C.flat_len]
  calc i*C.size+j<i*C.size+C.size:=by omega
   _=(i+1)*C.size:=by rw[Nat.add_mul,Nat.one_mul]
   _≤l.length*C.size:=Nat.mul_le_mul_right _ hi
 have:=hc (i*C.size+j) _ (List.getElem?_eq_getElem hl);rw[this,←List.getElem?_eq_getElem hl,C.flat_at l i j hi hj]
theorem form (h:Rd C w S v l):∃A cap,v=.slice A l.length cap∧l.length≤cap∧cap≤maxLen:=by obtain⟨A,cap,h1,h2,h3,h4,h5⟩:=h;exact⟨A,cap,h1,h2,h3⟩
end Rd
def Own {α:Type}(C:Cod α)(w:World)(E:TypeId)(v:Value)(o:Option Nat)(l:List α):Prop:=
 (∃A,v=.slice A 0 0∧o=none∧l=[])∨
 ∃g off cap cur,v=.slice (some ⟨g,off,none⟩) l.length cap∧o=some g∧w.heap[g]? =some (.cells cur E (0,0))∧0<cap∧l.length≤cap∧cap≤maxLen∧
  off+cap*C.size≤cur.size∧(cur.toList.drop off).take (l.length*C.size)=C.flat l
namespace Own
variable {α : Type} {C : Cod α} {w w' : World} {E : TypeId} {v : Value} {o : Option Nat} {l : List α}
theorem nil_ (C:Cod α)(w:World)(E:TypeId)(A:Option Addr):Own C w E (.slice A 0 0) none []:=.inl ⟨A,rfl,rfl,rfl⟩
theorem keep (h:Own C w E v o l)(hk:∀k,o=some k→w'.heap[k]? =w.heap[k]?):Own C w' E v o l:=by
 rcases h with h|⟨g,off,cap,cur,h1,h2,h3,h4⟩
 · exact .inl h
 · exact .inr ⟨g,off,cap,cur,h1,h2,(hk g h2).trans h3,h4⟩
theorem lt (h:Own C w E v o l):∀k,o=some k→k<w.heap.size:=by
 intro k hk;rcases h with ⟨A,h1,h2,h3⟩|⟨g,off,cap,cur,h1,h2,h3,h4⟩
 · rw[h2] at hk;cases hk
 · rw[h2] at hk;injection hk with hk;subst hk;exact(Array.getElem?_eq_some_iff.1 h3).1
theorem fr {fp:Nat→Prop}(h:Own C w E v o l)(hf:Fr fp w w')(hs:∀k,o=some k→¬fp k):Own C w' E v o l:=h.keep fun k hk=>hf.block k (h.lt k hk) (hs k hk)
theorem form (h:Own C w E v o l):∃A cap,v=.slice A l.length cap∧l.length≤cap∧cap≤maxLen:=by
 rcases h with ⟨A,h1,h2,h3⟩|⟨g,off,cap,cur,h1,h2,h3,h4,h5,h6,h7⟩
 · subst h3;exact⟨A,0,by simpa using h1,Nat.le_refl _,by simp[maxLen]⟩
 · exact⟨_,cap,h1,h5,h6⟩
theorem rd' (h:Own C w E v o l)(hnn:v≠.slice none 0 0∨l=[]):Rd C w (fun k=>o=some k) v l:=by
 rcases h with ⟨A,h1,h2,h3⟩|⟨g,off,cap,cur,h1,h2,h3,h4,h5,h6,h7,h8⟩
 · subst h3;exact⟨A,0,by simpa using h1,Nat.le_refl _,by simp[maxLen],fun _=>rfl,fun h=>absurd h (by simp)⟩
 · refine⟨_,cap,h1,h5,h6,fun h=>(by cases h),fun hp=>⟨g,off,rfl,h2,fun j u hu=> ?_⟩⟩;rw[cell_of_row w g (off+j) cur E (0,0) h3];rw[←h8,List.getElem?_take] at hu;split at hu
   · rw[List.getElem?_drop] at hu;simpa using hu
   · cases hu
theorem rd (h:Own C w E v o l):Rd C w (fun k=>o=some k) v l:=by
 refine h.rd' ?_;rcases h with ⟨A,h1,h2,h3⟩|⟨g,off,cap,cur,h1,h2,h3,h4,h5,h6,h7,h8⟩
 · exact .inr h3
 · refine .inl ?_;rw[h1];simp
theorem made (C:Cod α)(w:World)(E:TypeId)(cur:Array Value)(l:List α)(cap:Nat)(hp:0<cap)(hl:l.length≤cap)(hm:cap≤maxLen)(hs:cap*C.size≤cur.size)(ht:cur.toList.take (l.length*C.size)=C.flat l):
 Own C (w.alloc (.cells cur E)) E (.slice (some ⟨w.heap.size,0,none⟩) l.length cap) (some w.heap.size) l:=
 .inr ⟨w.heap.size,0,cap,cur,rfl,rfl,heap_alloc_new w _,hp,hl,hm,by omega,by simpa using ht⟩
theorem drew (h:Own C w E v o l):Own C w.drew E v o l:=h
theorem frozen {i:Nat}{g off cap n:Nat}(h:Own C w E v o l)(hv:v=.slice (some ⟨g,off,none⟩) n cap)(ho:o≠none):w.frozen? ⟨g,i,none⟩=false:=by
 rcases h with ⟨A,h1,h2,h3⟩|⟨g',off',cap',cur,h1,h2,h3,h4⟩
 · exact absurd h2 ho
 · rw[h1] at hv;simp only[Value.slice.injEq,Option.some.injEq,Addr.mk.injEq] at hv;obtain⟨⟨rfl,_⟩,_⟩:=hv;exact frozen_of_row w g' i cur E h3
theorem tail {x:α}{A:Option Addr}{n cap:Nat}(h:Own C w E (.slice A n cap) o (x::l)):
 ∃g off,A=some ⟨g,off,none⟩∧n=l.length+1∧l.length+1≤cap∧o=some g∧(∃o',Own C w E (.slice (if cap=1 then some ⟨g,off,none⟩ else some ⟨g,off+C.size,none⟩) l.length (cap - 1)) o' l∧(o'=none∨o'=o))∧
  (∀j,j<C.size→w.cell? ⟨g,off+j,none⟩=(C.cells x)[j]?):=by
 have hrd:=h.rd;rcases h with ⟨A',h1,h2,h3⟩|⟨g,off,cap',cur,h1,h2,h3,h4,h5,h6,h7,h8⟩
 · cases h3
 · simp only[Value.slice.injEq,List.length_cons] at h1;obtain⟨rfl,rfl,rfl⟩:=h1;simp only[List.length_cons] at h5 h8;refine⟨g,off,rfl,rfl,h5,h2, ?_,fun j hj=> ?_⟩
   · by_cases hc:cap=1
     · subst hc;have hl:l=[]:=List.eq_nil_of_length_eq_zero (by omega);subst hl;exact⟨none,by simpa using Own.nil_ C w E _,.inl rfl⟩
     · refine⟨o,.inr ⟨g,off+C.size,cap - 1,cur,by rw[if_neg hc],h2,h3,by omega,by omega,by omega, ?_, ?_⟩,.inr rfl⟩
       · have hm:cap*C.size=(cap - 1)*C.size+C.size:=by obtain⟨d,rfl⟩:∃d,cap=d+1:=⟨cap - 1,by omega⟩;simp[Nat.add_mul]
         omega
       · rw[←List.drop_drop];rw[Nat.add_mul,Nat.one_mul] at h8;have h9:=congrArg (List.drop C.size) h8;rw[List.drop_take] at h9;rw[show l.length*C.size+C.size - C.size=l.length*C.size from by omega] at h9;rw[h9,C.flat_cons,List.drop_append,C.len,List.drop_of_length_le (by rw[C.len];omega)];simp
   · obtain⟨g',off',cap',hv,_,_,_,hc⟩:=hrd.at_ (i:=0) (by simp);simp only[Value.slice.injEq,Option.some.injEq,Addr.mk.injEq] at hv;obtain⟨⟨rfl,rfl,_⟩,_⟩:=hv;have:=hc j hj;simpa using this
end Own
def El (P:Program)(t e:TypeId)(size bytes:Nat):Prop:=P.underlying t=some (.slice e)∧∃i z,P.info? e=some i∧i.zero=some z∧i.size=size∧i.bytes=bytes∧z.cells.size=size∧0<bytes
theorem El.mk {P:Program}{t e:TypeId}{size bytes:Nat}(z:Value)(ht:P.underlying t=some (.slice e))(hi:(P.info? e).map (fun i=>(i.zero,i.size,i.bytes))=some (some z,size,bytes))(hz:z.cells.size=size)(hb:0<bytes:=by decide):El P t e size bytes:=by
 refine⟨ht, ?_⟩
 cases h:P.info? e with
 |none=>rw[h] at hi;cases hi
 |some i=>rw[h] at hi;simp only[Option.map_some,Option.some.injEq,Prod.mk.injEq] at hi;exact⟨i,z,rfl,hi.1,hi.2.1,hi.2.2,hz,hb⟩
section append
variable {P : Program} {α : Type} {C : Cod α}
theorem z0s {t ty e:TypeId}{bytes:Nat}(hel:El P t e C.size bytes)(w:World){v vx:Value}{o:Option Nat}{l news:List α}{S:Nat→Prop}
 (hown:Own C w e v o l) (hr:Rd C w S vx news) (hb:(l.length+news.length)*bytes≤140737488355328):
 ∃v' w' o',(Builtin.append_ #[t,t] ty #[v,vx]).run P w=.ok v' w'∧Own C w' e v' o' (l++news)∧Fr (fun k=>o=some k) w w'∧
  (∀k,o'=some k→o=some k∨(w.heap.size≤k∧k<w'.heap.size)):=by
 obtain⟨ht,i,z,hi,hz,hsize,hby,hzs,hbp⟩:=hel;have h63:l.length+news.length≤maxLen:=by have:=Nat.le_mul_of_pos_right (l.length+news.length) hbp;simp only[maxLen];omega
 obtain⟨Ax,capx,rfl,hxc,hxm,hxn,hxcells⟩:=hr;by_cases hm:news.length=0
 · have hnews:news=[]:=List.eq_nil_of_length_eq_zero hm;subst hnews;refine⟨v,w,o, ?_,by simpa using hown,Fr.refl _ _,fun k hk=>.inl hk⟩;rcases hown with ⟨A,rfl,_,rfl⟩|⟨g,off,cap,cur,rfl,_,_,_,hlc,_⟩
   · cases A<;>cases Ax<;>simp[Builtin.append_,run_underlying ht,sizeOf,typeInfo,hi,Builtin.lenOf,Builtin.firstCells,loadCells,loadCellsFrom,storeCells]
   · cases Ax<;>simp[Builtin.append_,run_underlying ht,sizeOf,typeInfo,hi,Builtin.lenOf,Builtin.firstCells,loadCells,loadCellsFrom,storeCells,hlc]
 · obtain⟨gx,offx,rfl,hS,hcx⟩:=hxcells (by omega);have hnl:(C.flat news).length=news.length*i.size:=by rw[C.flat_len,hsize]
   have hnc:∀j u,(C.flat news)[j]? =some u→w.cell? ((⟨gx,offx,none⟩:Addr).add j)=some u:=fun j u hu=>by rw[Addr.add_lit];exact hcx j u hu
   have hsmall:l.length+news.length≤9223372036854775807:=by simp only[maxLen] at h63;omega
   have grown:∀old,old<l.length+news.length→
    Own C (w.drew.alloc (.cells ((C.flat l).toArray++(C.flat news).toArray++Builtin.zeroCells z.cells (grownCap w (l.length+news.length) old e - (l.length+news.length))) e)) e
     (.slice (some ⟨w.heap.size,0,none⟩) (l.length+news.length) (grownCap w (l.length+news.length) old e)) (some w.heap.size) (l++news):=by
    intro old ho;have hge:=grownCap_ge w (l.length+news.length) old e;have hcm:grownCap w (l.length+news.length) old e≤maxLen:=grownCap_le_maxLen w (l.length+news.length) old e h63
    have hh:=Own.made C w.drew e ((C.flat l).toArray++(C.flat news).toArray++Builtin.zeroCells z.cells (grownCap w (l.length+news.length) old e - (l.length+news.length))) (l++news) (grownCap w (l.length+news.length) old e) (by omega) (by simp;omega) hcm
     (by simp only[Array.size_append,List.size_toArray,size_zeroCells,hzs,C.flat_len,←Nat.add_mul];exact Nat.mul_le_mul_right _ (by omega))
     (by simp only[Array.toList_append];rw[←C.flat_append,←C.flat_len];exact List.take_left)
    simpa using hh
   rcases hown with ⟨A,rfl,rfl,rfl⟩|⟨g,off,cap,cur,rfl,rfl,hg,hcp,hlc,hcm,hfit,htake⟩
   · have hgr:=grown 0 (by simp;omega);simp only[List.length_nil,Nat.zero_add,List.nil_append,C.flat_nil] at hgr hb h63 hsmall⊢
     have hrun:(Builtin.append_ #[t,t] ty #[.slice A 0 0,.slice (some ⟨gx,offx,none⟩) news.length capx]).run P w=
      .ok (.slice (some ⟨w.heap.size,0,none⟩) news.length (grownCap w news.length 0 e)) (w.drew.alloc (.cells ((C.flat news).toArray++Builtin.zeroCells z.cells (grownCap w news.length 0 e - news.length)) e)):=by
      cases A with
      |none=>exact run_append_nil (P:=P) w t ty e i z ht hi hz ⟨gx,offx,none⟩ news.length capx (C.flat news) hnl hnc (by omega) (by omega) (by rw[hby];omega)
      |some a=>have:=run_append_grow (P:=P) w t ty e i z ht hi hz a 0 0 [] (by simp) (by simp) ⟨gx,offx,none⟩ news.length capx (C.flat news) hnl hnc (by omega) (by omega) (growslice_fits (by omega) (by rw[hby];simpa using hb));simpa using this
     refine⟨_,_,_,hrun,by simpa using hgr,⟨rfl,rfl,rfl,by simp,fun k hk _=>Below.heap_alloc w.drew _ k hk⟩,fun k hk=>.inr ?_⟩;injection hk with hk;subst hk;exact⟨Nat.le_refl _,by simp⟩
   · by_cases hroom:l.length+news.length≤cap
     · have hdl:(cur.toList.drop off).length=cur.size - off:=by simp
       have hle:(l.length+news.length)*C.size≤cap*C.size:=Nat.mul_le_mul_right _ hroom;rw[Nat.add_mul] at hle
       have hrun:(Builtin.append_ #[t,t] ty #[.slice (some ⟨g,off,none⟩) l.length cap,.slice (some ⟨gx,offx,none⟩) news.length capx]).run P w=
        .ok (.slice (some ⟨g,off,none⟩) (l.length+news.length) cap) (w.setRow g (cur.toList.take (off+l.length*i.size)++C.flat news++cur.toList.drop (off+l.length*i.size+(C.flat news).length)).toArray):=by
        have hf:=run_firstCells_some (P:=P) w i.size news.length ⟨gx,offx,none⟩ news.length capx (C.flat news) hnl hnc;have hst:=run_storeCells_at P g (off+l.length*i.size) e (C.flat news) 0 cur w hg (by rw[hnl,hsize];omega) (C.flat_one news);simp only[Nat.add_zero] at hst;simp[Builtin.append_,run_underlying ht,sizeOf,typeInfo,hi,Builtin.lenOf,hroom,hf,Addr.add_lit,hst]
       refine⟨_,_,some g,hrun,.inr ⟨g,off,cap,_,by simp,rfl,setRow_heap w g cur _ e _ hg,hcp,by simpa using hroom,hcm, ?_, ?_⟩,Fr.setRow (Fr.refl (fun k=>some g=some k) w) (.inl rfl) _,fun k hk=>.inl hk⟩
       · simp only[List.size_toArray,List.length_append,List.length_take,List.length_drop,Array.length_toList,C.flat_len,hsize];omega
       · simp only[hsize,List.length_append];have hto:cur.toList.take (off+l.length*C.size)=cur.toList.take off++C.flat l:=by rw[List.take_add,htake]
         rw[hto,List.append_assoc,List.append_assoc,List.drop_append];have hl0:(cur.toList.take off).length=off:=by simp;omega
         rw[List.drop_of_length_le (by omega),hl0];simp only[Nat.sub_self,List.drop_zero,List.nil_append];rw[←List.append_assoc,←C.flat_append];rw[show (l.length+news.length)*C.size=(C.flat (l++news)).length from by rw[C.flat_len,List.length_append]];exact List.take_left
     · have hold:∀j u,(C.flat l)[j]? =some u→w.cell? ((⟨g,off,none⟩:Addr).add j)=some u:=by
        intro j u hu;rw[Addr.add_lit,cell_of_row w g (off+j) cur e (0,0) hg];rw[←htake,List.getElem?_take] at hu;split at hu
        · rw[List.getElem?_drop] at hu;simpa using hu
        · cases hu
       have hrun:=run_append_grow (P:=P) w t ty e i z ht hi hz ⟨g,off,none⟩ l.length cap (C.flat l) (by rw[C.flat_len,hsize]) hold ⟨gx,offx,none⟩ news.length capx (C.flat news) hnl hnc (by omega) (by omega) (growslice_fits (by omega) (by rw[hby];exact hb));refine⟨_,_,_,hrun,grown cap (by omega),⟨rfl,rfl,rfl,by simp,fun k hk _=>Below.heap_alloc w.drew _ k hk⟩,fun k hk=>.inr ?_⟩;injection hk with hk;subst hk;exact⟨Nat.le_refl _,by simp⟩
theorem z8q {w:World}{o:Oper}{a:Act}{K:Act→World→Prop}{Q:Exit→Act→World→Prop}{s x:Operand}{t e:TypeId}{bytes:Nat}
 (ho:o.op=.call {callee:=.builtin .append,args:= #[s,x],argTypes:= #[t,t]}) (hel:El P t e C.size bytes)
 {v vx:Value} {ob:Option Nat} {l news:List α} {S:Nat→Prop} (hs:a.eval s=v) (hx:a.eval x=vx)
 (hown:Own C w e v ob l) (hr:Rd C w S vx news) (hb:(l.length+news.length)*bytes≤140737488355328)
 (h:∀A' cap' w' o',Own C w' e (.slice A' (l.length+news.length) cap') o' (l++news)→Fr (fun k=>ob=some k) w w'→(∀k,o'=some k→ob=some k∨(w.heap.size≤k∧k<w'.heap.size))→K (a.put o.dst (.slice A' (l.length+news.length) cap')) w'):o.wp P a w K Q:=by
 obtain⟨v',w',o',hrun,h2,h3,h4⟩:=z0s (P:=P) (ty:=o.type) hel w hown hr hb;unfold Oper.wp execOp;simp only[ho,resolve,invoke,builtin,Sem.run_bind,Sem.run_pure,Result.andThen_ok,List.map_toArray,List.map_cons,List.map_nil,hs,hx,hrun];obtain⟨A',cap',hv, -, -⟩:=h2.form;rw[List.length_append] at hv;subst hv;exact h A' cap' w' o' h2 h3 h4
theorem z0d {w:World}{ops:Array Oper}{rest:List Oper}{o:Oper}{a:Act}{Q:Exit→Act→World→Prop}(hgd:o.guard=none){s x:Operand}{t e:TypeId}{bytes:Nat}
 (ho:o.op=.call {callee:=.builtin .append,args:= #[s,x],argTypes:= #[t,t]}) (hel:El P t e C.size bytes)
 {v vx:Value} {ob:Option Nat} {l news:List α} {S:Nat→Prop} (hs:a.eval s=v) (hx:a.eval x=vx)
 (hown:Own C w e v ob l) (hr:Rd C w S vx news) (hb:(l.length+news.length)*bytes≤140737488355328)
 (h:∀A' cap' w' o',Own C w' e (.slice A' (l.length+news.length) cap') o' (l++news)→Fr (fun k=>ob=some k) w w'→(∀k,o'=some k→ob=some k∨(w.heap.size≤k∧k<w'.heap.size))→wpList P ops Q rest (a.put o.dst (.slice A' (l.length+news.length) cap')) w'):wpList P ops Q (o::rest) a w:=
 wpList_plain hgd fun _ hK=>z8q ho hel hs hx hown hr hb fun A' cap' w' o' h2 h3 h4=>hK _ _ (h A' cap' w' o' h2 h3 h4)
theorem zbb {w:World}{ops:Array Oper}{o:Oper}{a:Act}{K:Act→World→Prop}{Q:Exit→Act→World→Prop}{Z:Prop}(hgd:o.guard=none){s x:Operand}{t e:TypeId}{bytes:Nat}
 (ho:o.op=.call {callee:=.builtin .append,args:= #[s,x],argTypes:= #[t,t]}) (hel:El P t e C.size bytes)
 {v vx:Value} {ob:Option Nat} {l news:List α} {S:Nat→Prop} (hs:a.eval s=v) (hx:a.eval x=vx)
 (hown:Own C w e v ob l) (hr:Rd C w S vx news) (hb:(l.length+news.length)*bytes≤140737488355328)
 (h:∀A' cap' w' o',Own C w' e (.slice A' (l.length+news.length) cap') o' (l++news)→Fr (fun k=>ob=some k) w w'→(∀k,o'=some k→ob=some k∨(w.heap.size≤k∧k<w'.heap.size))→K (a.put o.dst (.slice A' (l.length+news.length) cap')) w'):
 if Region.wanted o (yielded ops a.tmps)=true then Oper.wp P o a w K Q else Z:=by
 have hw:Region.wanted o (yielded ops a.tmps)=true:=by simp[Region.wanted,hgd]
 rw[if_pos hw];exact z8q ho hel hs hx hown hr hb h
end append
section lift
open Go.ChangeShapes Go.WideShapes Go.Deep
variable {H : Type} {enc : TypeId × Value → H} {P : Program}
theorem zoa {t:TypeId}(hl:laidOutB P=true)(hr:P.readableRec t=true)(hrow:t<P.types.size){W W':World}{v:Value}{d:DataW H}{ps:List MemPlace}{sp:Nat→Bool}
 (h:DataW.Trod enc P W 0 (fun _=>true) true t v d ps) (hb:Below W.heap.size W W') (hlt:∀x∈ps,x.block<W.heap.size) (hsp:∀x∈ps,sp x.block=true):DataW.Trod enc P W' 0 sp true t v d ps:=
 WideElems.Trod_stays hl hr hrow h (fun x hx=>hb.same (hlt x hx)) hsp
theorem ze8 {f:Func}{s:ChangeSpec}{apart fresh handsOn again:Bool}{W W':World}{args:Array Value}{v:Value}{ds gs:List (DataW H)}{before pa pv:List MemPlace}
 (hW:DataW.Whole enc P f.params.toList s.vars apart W args.toList ds gs before)
 (hres:∀(b:Nat) (sp:Nat→Bool) (hd:Bool),DataW.TrodAll enc P W' b sp hd f.resultTypes.toList (v.resultList f.resultTypes.size) (s.fn H (ds++gs)).results [])
 (hargs:∀sp:Nat→Bool,(∀p∈before,sp p.block=true)→DataW.TrodAll enc P W' 0 sp true f.params.toList args.toList (s.fn H (ds++gs)).args pa)
 (hvars:∀sp:Nat→Bool,(∀p∈before,sp p.block=true)→DataW.TrodVars enc P W' sp s.vars (s.fn H (ds++gs)).vars pv)
 (hps:before=pa++pv) (hb:Below W.heap.size W W')
 (hok:∀(j:Nat) (t:TypeId) (r:Value),f.resultTypes[j]? =some t→(v.resultList f.resultTypes.size)[j]? =some r→Value.okWide P W' .any 0 t r):
 s.post enc P f apart fresh handsOn again W args v W':=by
 have hlt:∀p∈before,p.block<W.heap.size:=fun p hp=>hW.lt p hp;have hold:∀p∈before,(fun b=>decide (b<W.heap.size)) p.block=true:=fun p hp=>by simpa using hlt p hp
 refine⟨ds,gs,before,[],pa,pv,hW,hres _ _ _,hargs _ hold,hvars _ hold,World.keptBut_mono (fun p hp=>⟨hp, ?_⟩) (hb.frame (· ∈before)),fun _=> ?_⟩
 · rw[hps,List.mem_append] at hp;exact Or.inr hp
 · obtain⟨_,_,_,_,_,hz,hn⟩:=hW;refine⟨hok,_,_,([]++pa)++pv,⟨[]++pa,pv,trodAll_append (hargs _ (fun _ _=>rfl)) (hres _ _ _),hvars _ (fun _ _=>rfl),rfl, ?_, ?_⟩, ?_⟩
   · intro b off hp;have hin:MemPlace.cell b off∈before:=by rw[hps];simpa using hp
     rw[hb.frozen (hlt _ hin)];exact hz b off hin
   · intro ha;have:=hn ha;rw[hps] at this;simpa using this
   · intro p hp _;rw[hps];simpa using hp
end lift
end Go.Proofs.YtnlacmnoocigiaaGreatDoor
namespace Go.Proofs.YtnlacmnoocigiaaGreatDoor
open Go.RowKit
section
variable {α : Type} {C : Cod α} {w : World} {E : TypeId} {o : Option Nat} {g off n cap : Nat} {l : List α}
theorem Own.raw (h:Own C w E (.slice (some ⟨g,off,none⟩) n cap) (some g) l):∃cur,w.heap[g]? =some (.cells cur E (0,0))∧0<cap∧n=l.length∧l.length≤cap∧cap≤maxLen∧off+cap*C.size≤cur.size∧∀t,t<l.length*C.size→cur[off+t]? =(C.flat l)[t]? :=by
 rcases h with ⟨A,h1,h2,h3⟩|⟨g',off',cap',cur,h1,h2,h3,h4,h5,h6,h7,h8⟩
 · cases h2
 · simp only[Value.slice.injEq,Option.some.injEq,Addr.mk.injEq] at h1;obtain⟨⟨rfl,rfl, -⟩,rfl,rfl⟩:=h1;refine⟨cur,h3,h4,rfl,h5,h6,h7,fun t ht=> ?_⟩;rw[←h8,List.getElem?_take,if_pos ht,List.getElem?_drop];simp
theorem Own.of_raw {cur:Array Value}(hg:w.heap[g]? =some (.cells cur E (0,0)))(h0:0<cap)(hl:l.length≤cap)(hm:cap≤maxLen)(hf:off+cap*C.size≤cur.size)(hc:∀t,t<l.length*C.size→cur[off+t]? =(C.flat l)[t]?):
 Own C w E (.slice (some ⟨g,off,none⟩) l.length cap) (some g) l:=by
 refine .inr ⟨g,off,cap,cur,rfl,rfl,hg,h0,hl,hm,hf, ?_⟩;have hle:l.length*C.size≤cap*C.size:=Nat.mul_le_mul_right _ hl;apply List.ext_getElem?;intro t;rw[List.getElem?_take];split
 · rename_i ht;rw[List.getElem?_drop];have:=hc t ht;simpa using this
 · rename_i ht;rw[List.getElem?_eq_none (by rw[C.flat_len];omega)]
theorem Own.set1 (h:Own C w E (.slice (some ⟨g,off,none⟩) n cap) (some g) l){i j:Nat}(hi:i<l.length)(hj:j<C.size){u:Value}{x':α}(hx:C.cells x'=(C.cells l[i]).set j u):
 Own C (w.setCell ⟨g,off+(i*C.size+j),none⟩ u) E (.slice (some ⟨g,off,none⟩) n cap) (some g) (l.set i x'):=by
 obtain⟨cur,hg,h0,rfl,hl,hm,hf,hc⟩:=h.raw;have s1:=heap_setCell_same w g (off+(i*C.size+j)) cur E u hg;have hlen:(l.set i x').length=l.length:=by simp
 have hcs:l.length*C.size≤cap*C.size:=Nat.mul_le_mul_right _ hl;rw[←hlen];refine Own.of_raw s1 h0 (by rw[hlen];exact hl) hm (by simpa using hf) fun q hq=> ?_;rw[hlen] at hq;have hC:=C.pos;have hq4:q=(q / C.size)*C.size+q % C.size:=by rw[Nat.mul_comm];exact(Nat.div_add_mod q C.size).symm
 have hr:q % C.size<C.size:=Nat.mod_lt _ hC;have hql:q / C.size<l.length:=Nat.div_lt_of_lt_mul (by rw[Nat.mul_comm];exact hq);have e1:(C.flat (l.set i x'))[q]? =(C.cells ((l.set i x')[q / C.size]'(by rw[hlen];exact hql)))[q % C.size]? :=by have:=C.flat_at (l.set i x') (q / C.size) (q % C.size) (by rw[hlen];exact hql) hr;rw[←hq4] at this;exact this
 have e2:cur[off+q]? =(C.cells l[q / C.size])[q % C.size]? :=by have:=C.flat_at l (q / C.size) (q % C.size) hql hr;rw[←hq4] at this;rw[hc q hq,this]
 rw[e1];generalize hd:q / C.size=d at*;generalize hm':q % C.size=r at*;have hin:off+q<cur.size:=by omega
 by_cases hqi:d=i
 · subst hqi;simp only[List.getElem_set_self];rw[hx];by_cases hrj:r=j
   · subst hrj;rw[←hq4,List.getElem?_set_self (by rw[C.len];exact hr)];simp[Array.getElem?_setIfInBounds,hin]
   · rw[List.getElem?_set_ne (fun e=>hrj e.symm),←e2];have hne:¬d*C.size+j=q:=by omega
     simp[Array.getElem?_setIfInBounds,hne]
 · rw[List.getElem_set_ne (fun e=>hqi e.symm),←e2]
   have hne:¬i*C.size+j=q:=by
    intro e;apply hqi;have e3:d*C.size+r=i*C.size+j:=by omega
    rcases Nat.lt_trichotomy d i with h1|h1|h1
    · have:(d+1)*C.size≤i*C.size:=Nat.mul_le_mul_right _ h1;rw[Nat.add_mul,Nat.one_mul] at this;omega
    · exact h1
    · have:(i+1)*C.size≤d*C.size:=Nat.mul_le_mul_right _ h1;rw[Nat.add_mul,Nat.one_mul] at this;omega
   simp[Array.getElem?_setIfInBounds,hne]
end
end Go.Proofs.YtnlacmnoocigiaaGreatDoor
