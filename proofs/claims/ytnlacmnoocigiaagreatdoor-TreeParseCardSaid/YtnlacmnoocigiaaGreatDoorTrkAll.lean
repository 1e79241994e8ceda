/- Trees in plain Lean: the places that nodes should have, by their parents. -/
import Derived.Test.YtnlacmnoocigiaaGreatDoorTrePq
import Derived.Test.YtnlacmnoocigiaaGreatDoorTreNo
import Derived.Test.YtnlacmnoocigiaaGreatDoorTokR
namespace Go.Proofs.YtnlacmnoocigiaaGreatDoor
abbrev PlM :=Int×Int×Int
structure LkM where
 pl:List PlM
 last:List Int
 opn:List Nat
def popO (p:Int):List Nat→List Nat
 |[]=>[]
 |t::r=>if(t:Int)=p then t::r else popO p r
def fstP (n:Int)(x:PlM):PlM:=(x.1,n,x.2.2)
def nxtP (n:Int)(x:PlM):PlM:=(x.1,x.2.1,n)
def lnkP (l:List PlM)(p k:Int)(n:Nat):List PlM:=if k= -1 then l.modify p.toNat (fstP n) else l.modify k.toNat (nxtP n)
def z79 (b:LkM)(p:Int):Int:=b.last[p.toNat]?.getD (-1)
def zcp (b:LkM)(p:Int):Prop:=¬(popO p b.opn=[]↔b.pl=[])∨(b.pl=[]∧p≠ -1)∨(popO p b.opn).length=64
instance (b :LkM) (p:Int):Decidable (zcp b p):=inferInstanceAs (Decidable (_∨_))
def z2p (b:LkM)(p:Int):LkM:={
 pl:=if b.pl=[] then [(p, -1, -1)] else lnkP (b.pl++[(p, -1, -1)]) p (z79 b p) b.pl.length
 last:=if b.pl=[] then [-1] else(b.last++[-1]).set p.toNat b.pl.length
 opn:=b.pl.length::popO p b.opn}
def z2i (b:LkM)(p:Int):Option LkM:=if zcp b p then none else some (z2p b p)
def z41 (b:LkM):List Int→Option LkM
 |[]=>some b
 |p::l=>match z2i b p with
  |none=>none
  |some b'=>z41 b' l
def lk0 :LkM:=⟨[],[],[]⟩
structure WfL (b:LkM):Prop where
 len:b.last.length=b.pl.length
 o:∀t∈b.opn,t<b.pl.length
 k:∀x∈b.last,x= -1∨(0≤x∧x<b.pl.length)
 d:b.opn.length≤64
theorem WfL.init :WfL lk0:=⟨rfl,fun t h=>(by cases h),fun t h=>(by cases h),by decide⟩
theorem zkn {p:Int}:∀l:List Nat,(popO p l).length≤l.length
 |[]=>Nat.le_refl _
 |x::l=>by
  rw[popO];split
  · exact Nat.le_refl _
  · have:=zkn (p:=p) l;rw[List.length_cons];omega
theorem zko {p:Int}:∀{l:List Nat} {t:Nat},t∈popO p l→t∈l
 |[],_,h=>by cases h
 |x::l,t,h=>by
  rw[popO] at h;split at h
  · exact h
  · exact List.mem_cons_of_mem _ (zko h)
theorem zh5 {p:Int}:∀{l:List Nat} {t:Nat} {r:List Nat},popO p l=t::r→(t:Int)=p
 |[],_,_,h=>by cases h
 |x::l,t,r,h=>by
  rw[popO] at h;split at h
  · rename_i hx;cases h;exact hx
  · exact zh5 h
theorem ztq (l:List PlM)(p k:Int)(n:Nat):(lnkP l p k n).length=l.length:=by unfold lnkP;split<;>simp
theorem zqb (b:LkM)(p:Int):(z2p b p).pl.length=b.pl.length+1:=by
 unfold z2p;simp only;split
 · rename_i h;rw[h];rfl
 · rw[ztq,List.length_append];rfl
theorem WfL.step {b b':LkM}{p:Int}(h:WfL b)(hs:z2i b p=some b'):WfL b'∧b'.pl.length=b.pl.length+1:=by
 unfold z2i at hs;split at hs
 · cases hs
 · rename_i hbad;cases hs;have hl:=zqb b p;refine⟨⟨?_, ?_, ?_, ?_⟩,hl⟩
   · rw[hl];unfold z2p;simp only;split
     · rename_i h0;rw[h0];rfl
     · rw[List.length_set,List.length_append,h.len];rfl
   · intro t ht;rw[hl];rcases List.mem_cons.1 ht with rfl|ht
     · omega
     · have:=h.o t (zko ht);omega
   · intro x hx;rw[hl];unfold z2p at hx;simp only at hx;split at hx
     · rw[List.mem_singleton] at hx;exact .inl hx
     · rcases List.mem_or_eq_of_mem_set hx with hx|rfl
       · rcases List.mem_append.1 hx with hx|hx
         · rcases h.k x hx with h1|h1
           · exact .inl h1
           · exact .inr ⟨h1.1,by omega⟩
         · rw[List.mem_singleton] at hx;exact .inl hx
       · exact .inr ⟨by omega,by omega⟩
   · have h1:=zkn (p:=p) b.opn;have h2:=h.d;have h3:(popO p b.opn).length≠64:=fun e=>hbad (.inr (.inr e));show (popO p b.opn).length+1≤64;omega
theorem zqc {b:LkM}(h:WfL b)(p:Int):z79 b p= -1∨(0≤z79 b p∧z79 b p<b.pl.length):=by
 unfold z79
 cases hg:b.last[p.toNat]? with
 |none=>exact .inl rfl
 |some x=>rw[Option.getD_some];obtain⟨h1,h2⟩:=List.getElem?_eq_some_iff.1 hg;exact h.k x (h2 ▸ List.getElem_mem h1)
def padG {α β:Type}(f:α→β)(z:β)(n:Nat)(l:List α):List β:=l.map f++List.replicate (n - l.length) z
section
variable {α β : Type} {f : α → β} {z : β} {n : Nat} {l : List α}
theorem zkp :padG f z n []=List.replicate n z:=by simp[padG]
theorem z4d (h:l.length≤n):(padG f z n l).length=n:=by unfold padG;rw[List.length_append,List.length_map,List.length_replicate];omega
theorem zqd (h:l.length=n):padG f z n l=l.map f:=by unfold padG;rw[h,Nat.sub_self];simp
theorem zh6 (h:l.length<n)(x:α):(padG f z n l).set l.length (f x)=padG f z n (l++[x]):=by
 unfold padG;obtain⟨m,hm⟩:∃m,n - l.length=m+1:=⟨n - l.length - 1,by omega⟩;have hm2:n - (l++[x]).length=m:=by rw[List.length_append,List.length_singleton];omega
 rw[hm,hm2,List.replicate_succ,List.map_append,List.append_assoc];have:=zev (f x) (l.map f) (z::List.replicate m z) 0;rw[List.length_map,Nat.add_zero] at this;rw[this];rfl
theorem zey {j:Nat}(h:j<l.length)(x:α):(padG f z n l).set j (f x)=padG f z n (l.set j x):=by unfold padG;rw[List.set_append_left _ _ (by rw[List.length_map];exact h),←List.map_set,List.length_set]
theorem zat {j:Nat}(h:j<l.length)(hj:j<(padG f z n l).length):(padG f z n l)[j]=f l[j]:=by unfold padG at hj⊢;rw[List.getElem_append_left (by rw[List.length_map];exact h),List.getElem_map]
end
theorem z9p {α:Type}(f:α→α):∀(l:List α) (j:Nat) (h:j<l.length),l.modify j f=l.set j (f l[j])
 |[],j,h=>absurd h (by simp)
 |x::l,0,h=>by simp
 |x::l,j+1,h=>by rw[List.modify_succ_cons,List.set_cons_succ,z9p f l j (by simpa using h)];rfl
theorem z7a :∀{l:List Int} {b b':LkM},WfL b→z41 b l=some b'→WfL b'∧b'.pl.length=b.pl.length+l.length
 |[],b,b',h,hr=>by cases hr;exact⟨h,by simp⟩
 |p::l,b,b',h,hr=>by
  rw[z41] at hr
  cases hs:z2i b p with
  |none=>rw[hs] at hr;cases hr
  |some b2=>rw[hs] at hr;obtain⟨h1,h2⟩:=h.step hs;obtain⟨h3,h4⟩:=z7a h1 hr;refine⟨h3, ?_⟩;rw[h4,h2,List.length_cons];omega
end Go.Proofs.YtnlacmnoocigiaaGreatDoor
namespace Go.Proofs.YtnlacmnoocigiaaGreatDoor
inductive Fo where
 |nil:Fo
 |cons (x:NodeM) (k r:Fo):Fo
namespace Fo
def size :Fo→Nat
 |nil=>0
 |cons _ k r=>1+k.size+r.size
def depth :Fo→Nat
 |nil=>0
 |cons _ k r=>max (1+k.depth) r.depth
def isNil :Fo→Bool
 |nil=>true
 |cons _ _ _=>false
def mk (x:NodeM)(p:Int)(n:Nat)(k r:Fo):NodeM:={x with parent:=p,first:=if k.isNil=true then -1 else((n+1:Nat):Int),next:=if r.isNil=true then -1 else((n+1+k.size:Nat):Int)}
def flat :Fo→Int→Nat→List NodeM
 |nil,_,_=>[]
 |cons x k r,p,n=>mk x p n k r::(k.flat n (n+1)++r.flat p (n+1+k.size))
theorem flat_len :∀(F:Fo) (p:Int) (n:Nat),(F.flat p n).length=F.size
 |nil,_,_=>rfl
 |cons x k r,p,n=>by rw[flat,List.length_cons,List.length_append,flat_len k,flat_len r,size];omega
def snoc :Fo→NodeM→Fo→Fo
 |nil,x,k=>cons x k nil
 |cons y k' r,x,k=>cons y k' (r.snoc x k)
def lastR :Fo→Nat→Int
 |nil,_=> -1
 |cons _ _ nil,n=>n
 |cons _ k (cons y k' r),n=>lastR (cons y k' r) (n+1+k.size)
theorem lastR_or :∀(F:Fo) (n:Nat),(F.isNil=true∧F.lastR n= -1)∨(F.isNil=false∧(n:Int)≤F.lastR n∧F.lastR n<n+F.size)
 |nil,_=>.inl ⟨rfl,rfl⟩
 |cons x k nil,n=>by right;refine⟨rfl, ?_, ?_⟩<;>simp only[lastR,size]<;>omega
 |cons x k (cons y k' r),n=>by
  right;rcases lastR_or (cons y k' r) (n+1+k.size) with ⟨h, -⟩|⟨-,h1,h2⟩
  · cases h
  · have e:(cons x k (cons y k' r)).size=1+k.size+(cons y k' r).size:=rfl;rw[lastR,e];exact⟨rfl,by omega,by omega⟩
theorem snoc_notNil :∀(F:Fo) (x:NodeM) (k:Fo),(F.snoc x k).isNil=false
 |nil,_,_=>rfl
 |cons _ _ _,_,_=>rfl
theorem snoc_depth :∀(F:Fo) (x:NodeM) (k:Fo),(F.snoc x k).depth=max F.depth (1+k.depth)
 |nil,x,k=>by simp only[snoc,depth];omega
 |cons y k' r,x,k=>by rw[snoc,depth,snoc_depth r,depth];omega
theorem lastR_snoc :∀(F:Fo) (x:NodeM) (k:Fo) (n:Nat),(F.snoc x k).lastR n=((n+F.size:Nat):Int)
 |nil,x,k,n=>by simp only[snoc,lastR,size,Nat.add_zero]
 |cons y k' r,x,k,n=>by
  have h:=lastR_snoc r x k (n+1+k'.size);rw[snoc,size]
  cases hr:r.snoc x k with
  |nil=>have:=snoc_notNil r x k;rw[hr] at this;cases this
  |cons z k2 r2=>rw[hr] at h;rw[lastR,h];congr 1;omega
def lnk (l:List NodeM)(last:Int)(n m:Nat):List NodeM:=if last= -1 then l else l.modify (last.toNat - n) (nxtN m)
theorem flat_snoc :∀(F:Fo) (x:NodeM) (k:Fo) (p:Int) (n:Nat),(F.snoc x k).flat p n=lnk (F.flat p n) (F.lastR n) n (n+F.size)++(cons x k nil).flat p (n+F.size)
 |nil,x,k,p,n=>by simp[snoc,flat,lastR,lnk,size]
 |cons y k' nil,x,k,p,n=>by
  have e1:(cons y k' nil).flat p n=mk y p n k' nil::(k'.flat n (n+1)++[]):=rfl;have e2:n+(cons y k' nil).size=n+1+k'.size:=by simp only[size];omega
  have e3:((cons y k' nil).snoc x k).flat p n=mk y p n k' (cons x k nil)::(k'.flat n (n+1)++(cons x k nil).flat p (n+1+k'.size)):=rfl;have e4:(cons y k' nil).lastR n=(n:Int):=rfl;rw[e3,e1,e2,e4,lnk,if_neg (by omega),Int.toNat_natCast,Nat.sub_self,List.append_nil,List.modify_zero_cons,List.cons_append];rfl
 |cons y k' (cons z k2 r2),x,k,p,n=>by
  have ih:=flat_snoc (cons z k2 r2) x k p (n+1+k'.size);have hl:=lastR_or (cons z k2 r2) (n+1+k'.size);rcases hl with ⟨h, -⟩|⟨-,h1,h2⟩
  · cases h
  · have hn:(cons y k' ((cons z k2 r2).snoc x k)).flat p n=mk y p n k' ((cons z k2 r2).snoc x k)::(k'.flat n (n+1)++((cons z k2 r2).snoc x k).flat p (n+1+k'.size)):=rfl;have hf:(cons y k' (cons z k2 r2)).flat p n=mk y p n k' (cons z k2 r2)::(k'.flat n (n+1)++(cons z k2 r2).flat p (n+1+k'.size)):=rfl;have hm:mk y p n k' ((cons z k2 r2).snoc x k)=mk y p n k' (cons z k2 r2):=rfl;have hs:n+(cons y k' (cons z k2 r2)).size=n+1+k'.size+(cons z k2 r2).size:=by show n+(1+k'.size+(cons z k2 r2).size)=_;omega
    have hla:(cons y k' (cons z k2 r2)).lastR n=(cons z k2 r2).lastR (n+1+k'.size):=rfl;rw[snoc,hn,hm,hf,ih,hla,hs];generalize (cons z k2 r2).lastR (n+1+k'.size)=la at*;generalize (cons z k2 r2).flat p (n+1+k'.size)=B at*;unfold lnk;rw[if_neg (by omega),if_neg (by omega)];obtain⟨j,rfl⟩:∃j:Nat,la=((n+1+k'.size+j:Nat):Int):=⟨(la - ((n+1+k'.size:Nat):Int)).toNat,by omega⟩;rw[Int.toNat_natCast,show n+1+k'.size+j - (n+1+k'.size)=j from by omega,show n+1+k'.size+j - n=(k'.size+j)+1 from by omega,List.modify_succ_cons];have hA:=z4i (nxtN ((n+1+k'.size+(cons z k2 r2).size:Nat):Int)) (k'.flat n (n+1)) B j;rw[flat_len] at hA;rw[hA,List.cons_append,List.append_assoc]
end Fo
def IsFo (p:Int)(deep n:Nat)(sub:List NodeM):Prop:=∃x k,sub=(Fo.cons x k .nil).flat p n∧(Fo.cons x k .nil).depth+deep≤65
theorem zix {E:List Tok→Nat→ResT}{x:Tok}{n size deep:Nat}{p:Int}(hE:∀l m sub rest,E l m=.inl (sub,rest)→IsFo n (deep+1) m sub):
 ∀(g:Nat) (l:List Tok) (acc:List NodeM) (text:ByteArray) (last:Int) (sub:List NodeM) (rest:List Tok),z6l E x n size g l acc text last=.inl (sub,rest)→
  (∃h K,acc=Fo.mk h p n K .nil::K.flat n (n+1)∧last=K.lastR (n+1)∧(Fo.cons h K .nil).depth+deep≤65)→IsFo p deep n sub
 |0,_,_,_,_,_,_,h,_=>by cases h
 |g+1,[],_,_,_,_,_,h,_=>by cases h
 |g+1,y::l,acc,text,last,sub,rest,h,⟨hd,K,h1,h2,h3⟩=>by
  rw[z6l] at h;split at h
  · split at h
    · cases h
    · cases h;unfold z93;split
      · exact⟨hd,K,by rw[h1,Fo.flat,Fo.flat,List.append_nil],h3⟩
      · refine⟨{hd with text:=text},K, ?_,h3⟩;rw[h1,List.modify_zero_cons,Fo.flat,Fo.flat,List.append_nil];rfl
  · split at h
    · exact zix hE g l acc _ last sub rest h ⟨hd,K,h1,h2,h3⟩
    · cases he:E (y::l) (n+acc.length) with
      |inr e=>rw[he] at h;cases h
      |inl r=>
       obtain⟨sub1,rest1⟩:=r;rw[he] at h;obtain⟨z,k,g1,g2⟩:=hE _ _ _ _ he;have hal:acc.length=1+K.size:=by rw[h1,List.length_cons,Fo.flat_len];omega
       refine zix hE g rest1 _ text _ sub rest h ⟨hd,K.snoc z k, ?_, ?_, ?_⟩
       · rw[Fo.flat_snoc,g1,hal,show n+(1+K.size)=n+1+K.size from by omega];rcases Fo.lastR_or K (n+1) with ⟨k1,k2⟩|⟨k1,k2,k3⟩
         · cases K with
           |cons _ _ _=>cases k1
           |nil=>rw[h1,h2];unfold z40 Fo.lnk;rw[if_pos (by rfl),if_pos (by rfl)];rfl
         · have hm:Fo.mk hd p n (K.snoc z k) .nil=Fo.mk hd p n K .nil:=by unfold Fo.mk;rw[Fo.snoc_notNil,k1];rfl
           rw[hm,h1];unfold z40 Fo.lnk;rw[h2,if_neg (by omega),if_neg (by omega)];obtain⟨j,hj⟩:∃j:Nat,K.lastR (n+1)=((n+1+j:Nat):Int):=⟨(K.lastR (n+1) - ((n+1:Nat):Int)).toNat,by omega⟩;rw[hj,Int.toNat_natCast,show n+1+j - n=j+1 from by omega,show n+1+j - (n+1)=j from by omega,List.modify_succ_cons,List.cons_append]
       · rw[Fo.lastR_snoc,hal];congr 1;omega
       · have e1:(Fo.cons hd (K.snoc z k) .nil).depth=max (1+(K.snoc z k).depth) 0:=rfl;have e2:(Fo.cons hd K .nil).depth=max (1+K.depth) 0:=rfl;have e3:(Fo.cons z k .nil).depth=max (1+k.depth) 0:=rfl;rw[e1,Fo.snoc_depth];omega
theorem zqe {size:Nat}:∀(f:Nat) (l:List Tok) (p:Int) (deep n:Nat) (sub:List NodeM) (rest:List Tok),z5g size f l p deep n=.inl (sub,rest)→IsFo p deep n sub
 |0,_,_,_,_,_,_,h=>by cases h
 |f+1,[],_,_,_,_,_,h=>by cases h
 |f+1,x::l,p,deep,n,sub,rest,h=>by
  rw[z5g] at h;split at h
  · cases h
  · split at h
    · cases h
    · rename_i hlim;have hd:(Fo.cons (newN x p) .nil .nil).depth+deep≤65:=by have:(Fo.cons (newN x p) .nil .nil).depth=1:=rfl;omega
      split at h
      · cases h;exact⟨newN x p,.nil,rfl,hd⟩
      · exact zix (p:=p) (deep:=deep) (fun l m sub rest he=>zqe f l n (deep+1) m sub rest he) _ _ _ _ _ _ _ h ⟨newN x p,.nil,rfl,rfl,hd⟩
theorem zxt {size:Nat}{toks:List Tok}{N:List NodeM}{p e:Int}(h:refM size toks=(N,p,e))(hN:N≠[]):∃x k,N=(Fo.cons x k .nil).flat (-1) 0∧(Fo.cons x k .nil).depth≤64:=by
 unfold refM at h;split at h
 · cases h;exact absurd rfl hN
 · split at h
   · cases h;exact absurd rfl hN
   · split at h
     · cases h;exact absurd rfl hN
     · rename_i he;split at h
       · cases h;obtain⟨x,k,g1,g2⟩:=zqe _ _ _ _ _ _ _ he;exact⟨x,k,g1,by omega⟩
       · cases h;exact absurd rfl hN
end Go.Proofs.YtnlacmnoocigiaaGreatDoor
namespace Go.Proofs.YtnlacmnoocigiaaGreatDoor
def shp (y:PlM):NodeM:=⟨bs [],[],⟨#[]⟩,y.1,y.2.1,y.2.2,0⟩
def tkO :Tok:=⟨1,[],[],[],0⟩
def tkC :Tok:=⟨2,[],[],[],0⟩
def topI :List Nat→Int
 |[]=> -1
 |t::_=>t
def ChainO (ps:List Int):List Nat→Prop
 |[]=>True
 |t::r=>ps[t]? =some (topI r)∧ChainO ps r
theorem ChainO.app {ps qs:List Int}:∀{o:List Nat},ChainO ps o→ChainO (ps++qs) o
 |[],_=>trivial
 |t::r,h=>⟨by obtain⟨h1,h2⟩:=List.getElem?_eq_some_iff.1 h.1;rw[List.getElem?_append_left h1,h.1],h.2.app⟩
theorem ChainO.drop {ps:List Int}:∀{pre o:List Nat},ChainO ps (pre++o)→ChainO ps o
 |[],_,h=>h
 |_::pre,o,h=>(h.2:ChainO ps (pre++o)).drop
theorem zkq (p:Int):∀l:List Nat,∃pre,l=pre++popO p l
 |[]=>⟨[],rfl⟩
 |t::r=>by
  rw[popO];split
  · exact⟨[],rfl⟩
  · obtain⟨pre,h⟩:=zkq p r;exact⟨t::pre,by rw[List.cons_append,←h]⟩
theorem ztr {p:Int}{l:List Nat}(h:popO p l≠[]):topI (popO p l)=p:=by
 cases hp:popO p l with
 |nil=>exact absurd hp h
 |cons t r=>exact zh5 hp
theorem z0x {α β:Type}{g:α→β}{f:α→α}{f':β→β}(h:∀x,g (f x)=f' (g x)):∀(l:List α) (i:Nat),(l.modify i f).map g=(l.map g).modify i f'
 |[],i=>by simp
 |x::l,0=>by simp[h]
 |x::l,i+1=>by rw[List.modify_succ_cons,List.map_cons,z0x h l i,List.map_cons,List.modify_succ_cons]
theorem zts (l:List PlM)(p k:Int)(n:Nat):(lnkP l p k n).map shp=z27 (l.map shp) p k n:=by
 unfold lnkP z27;split
 · exact z0x (g:=shp) (f:=fstP n) (f':=fstN n) (fun _=>rfl) _ _
 · exact z0x (g:=shp) (f:=nxtP n) (f':=nxtN n) (fun _=>rfl) _ _
theorem z38 {α:Type}:∀(l:List α) (i:Nat),l.modify i (fun x=>x)=l
 |[],i=>by simp
 |x::l,0=>by simp
 |x::l,i+1=>by rw[List.modify_succ_cons,z38]
theorem ztt (l:List PlM)(p k:Int)(n:Nat):(lnkP l p k n).map (·.1)=l.map (·.1):=by
 unfold lnkP;split
 · rw[z0x (g:=fun y:PlM=>y.1) (f:=fstP n) (f':=fun x=>x) (fun _=>rfl),z38]
 · rw[z0x (g:=fun y:PlM=>y.1) (f:=nxtP n) (f':=fun x=>x) (fun _=>rfl),z38]
theorem zc8 (b:LkM)(p:Int):(z2p b p).pl.map (·.1)=b.pl.map (·.1)++[p]:=by
 unfold z2p;simp only;split
 · rename_i h;rw[h];rfl
 · rw[ztt,List.map_append];rfl
theorem zc9 {b b':LkM}{p:Int}(h:z2i b p=some b'):¬zcp b p∧b'=z2p b p:=by
 unfold z2i at h;split at h
 · cases h
 · rename_i hb;cases h;exact⟨hb,rfl⟩
theorem zh7 :∀{l:List Int} {b b':LkM},z41 b l=some b'→b'.pl.map (·.1)=b.pl.map (·.1)++l
 |[],b,b',h=>by cases h;simp
 |p::l,b,b',h=>by
  rw[z41] at h
  cases hs:z2i b p with
  |none=>rw[hs] at h;cases h
  |some b2=>rw[hs] at h;obtain⟨-,rfl⟩:=zc9 hs;rw[zh7 h,zc8,List.append_assoc];rfl
structure SimL (b:LkM)(o:List Nat)(B:BldM):Prop where
 nodes:B.nodes=b.pl.map shp
 lasts:B.lasts=b.last
 texts:∀t∈B.texts,t=⟨#[]⟩
 inn:B.inn=topI o
 deep:B.deep=o.length
 ch:ChainO (b.pl.map (·.1)) o
 wf:WfL b
theorem SimL.pop {b:LkM}{t:Nat}{r:List Nat}{B:BldM}(h:SimL b (t::r) B):z1l B tkC=.inl (z3x B)∧SimL b r (z3x B):=by
 have hi:B.inn=(t:Int):=h.inn;obtain⟨h1,h2⟩:=h.ch;rw[List.getElem?_map,Option.map_eq_some_iff] at h1;obtain⟨y,hy,hy2⟩:=h1;have hn:z3e B=shp y:=by unfold z3e;rw[hi,Int.toNat_natCast,h.nodes,List.getElem?_map,hy];rfl
 have ht:z11 B=⟨#[]⟩:=by
  unfold z11
  cases hg:B.texts[B.inn.toNat]? with
  |none=>rfl
  |some z=>obtain⟨g1,g2⟩:=List.getElem?_eq_some_iff.1 hg;exact h.texts z (g2 ▸ List.getElem_mem g1)
 have hb:z23 (⟨#[]⟩:ByteArray)=true:=rfl;constructor
 · rw[zc6 rfl];unfold z1r;rw[if_neg];rintro(h0|h0)
   · omega
   · rw[hn] at h0;exact h0 rfl
 · refine⟨?_,h.lasts,h.texts, ?_, ?_,h2,h.wf⟩
   · unfold z3x;simp only;rw[ht,if_pos hb];exact h.nodes
   · unfold z3x;simp only;rw[hn];exact hy2
   · unfold z3x;simp only;rw[h.deep];rfl
theorem SimL.pops {b:LkM}:∀{pre r:List Nat} {B:BldM},SimL b (pre++r) B→∃B',(∀l,runM B (List.replicate pre.length tkC++l)=runM B' l)∧SimL b r B'
 |[],r,B,h=>⟨B,fun l=>rfl,h⟩
 |t::pre,r,B,h=>by obtain⟨h1,h2⟩:=SimL.pop (t:=t) (r:=pre++r) h;obtain⟨B',h3,h4⟩:=SimL.pops h2;refine⟨B',fun l=> ?_,h4⟩;rw[List.length_cons,List.replicate_succ,List.cons_append,z36 h1,h3]
theorem SimL.push {b b':LkM}{p:Int}{B:BldM}(h:SimL b (popO p b.opn) B)(hs:z2i b p=some b')(hn:b.pl.length<4096):∃B',z1l B tkO=.inl B'∧SimL b' b'.opn B':=by
 obtain⟨hbad,rfl⟩:=zc9 hs;unfold zcp at hbad;have hiff:popO p b.opn=[]↔b.pl=[]:=Decidable.not_not.1 fun e=>hbad (.inl e);have hroot:b.pl=[]→p= -1:=fun e=>Decidable.not_not.1 fun e2=>hbad (.inr (.inl ⟨e,e2⟩));have h64:(popO p b.opn).length≠64:=fun e=>hbad (.inr (.inr e));have hlen:B.nodes.length=b.pl.length:=by rw[h.nodes,List.length_map]
 have hin:B.inn=p:=by
  rw[h.inn];by_cases h0:popO p b.opn=[]
  · rw[h0,hroot (hiff.1 h0)];rfl
  · exact ztr h0
 have hm1:B.inn= -1↔b.pl=[]:=by
  rw[←hiff,h.inn]
  cases popO p b.opn with
  |nil=>simp[topI]
  |cons t r=>simp only[topI,reduceCtorEq,iff_false];first|done|omega
 have hop:z0n B tkO=.inl {
  nodes:=if B.inn= -1 then B.nodes++[newN tkO B.inn] else z27 (B.nodes++[newN tkO B.inn]) B.inn (z2a B) B.nodes.length
  texts:=B.texts++[⟨#[]⟩]
  lasts:=if B.inn= -1 then B.lasts++[-1] else(B.lasts++[-1]).set B.inn.toNat B.nodes.length
  inn:=B.nodes.length
  deep:=B.deep+1}:=by
  unfold z0n;rw[if_neg,if_neg]
  · rintro(e|e)
    · omega
    · rw[h.deep] at e;exact h64 e
  · rintro(⟨e1,e2⟩|e)
    · refine e2 ?_;rw[h.nodes,hm1.1 e1];rfl
    · exact e .nil
 refine⟨_,(zdj rfl).trans hop, ?_⟩;have hnew:newN tkO B.inn=shp (p, -1, -1):=by rw[hin];rfl
 have hla:z2a B=z79 b p:=by unfold z2a z79;rw[h.lasts,hin]
 refine⟨?_, ?_, ?_, ?_, ?_, ?_,(h.wf.step hs).1⟩
 · simp only;unfold z2p;simp only;by_cases h0:b.pl=[]
   · rw[if_pos (hm1.2 h0),if_pos h0,hnew,h.nodes,h0];rfl
   · rw[if_neg (fun e=>h0 (hm1.1 e)),if_neg h0,zts,List.map_append,hnew,hla,hin,hlen,h.nodes];rfl
 · simp only;unfold z2p;simp only;by_cases h0:b.pl=[]
   · have hl0:b.last=[]:=List.eq_nil_of_length_eq_zero (by rw[h.wf.len,h0];rfl);rw[if_pos (hm1.2 h0),if_pos h0,h.lasts,hl0];rfl
   · rw[if_neg (fun e=>h0 (hm1.1 e)),if_neg h0,hin,hlen,h.lasts]
 · intro t ht;rcases List.mem_append.1 ht with ht|ht
   · exact h.texts t ht
   · exact List.mem_singleton.1 ht
 · simp only;rw[hlen];rfl
 · simp only;rw[h.deep];rfl
 · show ChainO _ (b.pl.length::popO p b.opn);rw[zc8];refine⟨?_,h.ch.app⟩;rw[List.getElem?_append_right (by rw[List.length_map];exact Nat.le_refl _),List.length_map,Nat.sub_self,←h.inn,hin];rfl
theorem zqf :∀{ps:List Int} {b b':LkM} {B:BldM},z41 b ps=some b'→SimL b b.opn B→b.pl.length+ps.length≤4096→∃toks B',KindOk toks∧(∀l,runM B (toks++l)=runM B' l)∧SimL b' b'.opn B'
 |[],b,b',B,h,hs,_=>by cases h;exact⟨[],B,fun x hx=>(by cases hx),fun l=>rfl,hs⟩
 |p::ps,b,b',B,h,hs,hn=>by
  rw[z41] at h;rw[List.length_cons] at hn
  cases hst:z2i b p with
  |none=>rw[hst] at h;cases h
  |some b2=>
   rw[hst] at h;obtain⟨pre,hpre⟩:=zkq p b.opn;rw[hpre] at hs;obtain⟨B1,h1,h2⟩:=hs.pops;obtain⟨B2,h3,h4⟩:=h2.push hst (by omega);have h5:=(h2.wf.step hst).2;obtain⟨toks,B3,k1,k2,k3⟩:=zqf h h4 (by omega);refine⟨List.replicate pre.length tkC++tkO::toks,B3, ?_, ?_,k3⟩
   · intro x hx;rcases List.mem_append.1 hx with hx|hx
     · rw[List.eq_of_mem_replicate hx];exact .inr (.inl rfl)
     · rcases List.mem_cons.1 hx with rfl|hx
       · exact .inl rfl
       · exact k1 x hx
   · intro l;rw[List.append_assoc,h1,List.cons_append,z36 h3,k2]
theorem zyb {ps:List Int}{b:LkM}(h:z41 lk0 ps=some b)(h0:ps≠[])(h4:ps.length≤4096):∃x k,b.pl.map shp=(Fo.cons x k .nil).flat (-1) 0∧(Fo.cons x k .nil).depth≤64:=by
 have hl:=(z7a WfL.init h).2;obtain⟨toks,B,h1,h2,h3⟩:=zqf (B:=initM) h ⟨rfl,rfl,fun t ht=>(by cases ht),rfl,rfl,trivial,WfL.init⟩ (by rw[show lk0.pl.length=0 from rfl];omega);obtain⟨B2,h5,h6⟩:=SimL.pops (pre:=b.opn) (r:=[]) (by rw[List.append_nil];exact h3);have hr:runM initM (toks++List.replicate b.opn.length tkC)=.inl B2:=by rw[h2];have:=h5 [];rw[List.append_nil] at this;rw[this];rfl
 have hk:KindOk (toks++List.replicate b.opn.length tkC):=by
  intro x hx;rcases List.mem_append.1 hx with hx|hx
  · exact h1 x hx
  · rw[List.eq_of_mem_replicate hx];exact .inr (.inl rfl)
 have hN:B2.nodes≠[]:=by rw[h6.nodes];intro e;have:=congrArg List.length e;rw[List.length_map,hl] at this;exact h0 (List.eq_nil_of_length_eq_zero (by rw[show lk0.pl.length=0 from rfl,List.length_nil] at this;omega))
 have hf:=zqa 0 _ hk;rw[hr] at hf;unfold finM at hf;simp only at hf
 rw[if_neg (by
  rintro(e|e)
  · exact e h6.inn
  · exact hN e)] at hf
 obtain⟨x,k,g1,g2⟩:=zxt hf.symm hN;exact⟨x,k,by rw[←h6.nodes,g1],g2⟩
def plOf (x:NodeM):PlM:=(x.parent,x.first,x.next)
theorem ziy :∀(F:Fo) (N:List NodeM) (p:Int) (n:Nat),N.map plOf=(F.flat p n).map plOf→∃G:Fo,G.flat p n=N∧G.isNil=F.isNil∧G.size=F.size∧G.depth=F.depth
 |.nil,N,p,n,h=>by
  have:N=[]:=by have:=congrArg List.length h;rw[List.length_map,List.length_map] at this;exact List.eq_nil_of_length_eq_zero this
  exact⟨.nil,this.symm,rfl,rfl,rfl⟩
 |.cons x k r,[],p,n,h=>by cases h
 |.cons x k r,y::N,p,n,h=>by
  rw[Fo.flat,List.map_cons,List.map_cons,List.cons.injEq,List.map_append] at h;obtain⟨h1,h2⟩:=h;have hk:((k.flat n (n+1)).map plOf).length=k.size:=by rw[List.length_map,Fo.flat_len]
  have h3:(N.take k.size).map plOf=(k.flat n (n+1)).map plOf:=by rw[List.map_take,h2,←hk,List.take_left]
  have h4:(N.drop k.size).map plOf=(r.flat p (n+1+k.size)).map plOf:=by rw[List.map_drop,h2,←hk,List.drop_left]
  obtain⟨K,a1,a2,a3,a4⟩:=ziy k _ _ _ h3;obtain⟨R,b1,b2,b3,b4⟩:=ziy r _ _ _ h4;refine⟨.cons y K R, ?_,rfl, ?_, ?_⟩
  · rw[Fo.flat,a3,a1,b1,List.take_append_drop];congr 1;unfold plOf Fo.mk at h1;simp only[Prod.mk.injEq] at h1;unfold Fo.mk;rw[a2,b2,a3];obtain⟨e1,e2,e3⟩:=h1;rw[←e1,←e2,←e3]
  · rw[Fo.size,Fo.size,a3,b3]
  · rw[Fo.depth,Fo.depth,a4,b4]
end Go.Proofs.YtnlacmnoocigiaaGreatDoor
namespace Go.Proofs.YtnlacmnoocigiaaGreatDoor
def okPl :List NodeM→List PlM→Bool
 |x::N,y::P=>(z6e x && (decide (x.first=y.2.1) && decide (x.next=y.2.2))) && okPl N P
 |_,_=>true
def z3y (N:List NodeM):Bool:=decide (N.length≠0) && (decide (N.length≤4096) && match z41 lk0 (N.map (·.parent)) with
 |none=>false
 |some b=>okPl N b.pl)
theorem zkr :∀{N:List NodeM} {P:List PlM},N.length=P.length→N.map (·.parent)=P.map (·.1)→okPl N P=true→P=N.map plOf∧∀x∈N,z6e x=true
 |[],[],_,_,_=>⟨rfl,fun x hx=>(by cases hx)⟩
 |[],_::_,h,_,_=>by cases h
 |_::_,[],h,_,_=>by cases h
 |x::N,y::P,h,hp,ho=>by
  rw[okPl,Bool.and_eq_true,Bool.and_eq_true,Bool.and_eq_true,decide_eq_true_eq,decide_eq_true_eq] at ho;obtain⟨⟨h1,h2,h3⟩,h4⟩:=ho;rw[List.map_cons,List.map_cons,List.cons.injEq] at hp;obtain⟨g1,g2⟩:=zkr (by simpa using h) hp.2 h4;refine⟨?_, ?_⟩
  · rw[List.map_cons,←g1];congr 1;unfold plOf;rw[h2,h3,hp.1]
  · intro z hz;rcases List.mem_cons.1 hz with rfl|hz
    · exact h1
    · exact g2 z hz
structure RightF (N:List NodeM)(x:NodeM)(k:Fo):Prop where
 flat:(Fo.cons x k .nil).flat (-1) 0=N
 depth:(Fo.cons x k .nil).depth≤64
 len:N.length≤4096
 plain:∀x∈N,z6e x=true
theorem zez {N:List NodeM}(h:z3y N=true):∃x k,RightF N x k:=by
 unfold z3y at h;rw[Bool.and_eq_true,Bool.and_eq_true,decide_eq_true_eq,decide_eq_true_eq] at h;obtain⟨h1,h2,h3⟩:=h
 cases hr:z41 lk0 (N.map (·.parent)) with
 |none=>rw[hr] at h3;cases h3
 |some b=>
  rw[hr] at h3;simp only at h3;have hne:N.map (·.parent)≠[]:=fun e=>h1 (by have:=congrArg List.length e;simpa using this);obtain⟨x,k,g1,g2⟩:=zyb hr hne (by rw[List.length_map];exact h2);have hl:=(z7a WfL.init hr).2;rw[List.length_map,show lk0.pl.length=0 from rfl,Nat.zero_add] at hl;have hp:=zh7 hr;rw[show lk0.pl.map (·.1)=[] from rfl,List.nil_append] at hp;obtain⟨k1,k2⟩:=zkr hl.symm hp.symm h3;have hm:N.map plOf=((Fo.cons x k .nil).flat (-1) 0).map plOf:=by rw[←g1,List.map_map,←k1];have:(plOf∘shp)=id:=rfl;rw[this,List.map_id]
  obtain⟨G,c1,c2,c3,c4⟩:=ziy _ N (-1) 0 hm
  cases G with
  |nil=>cases c2
  |cons y K R=>
   have hR:R=.nil:=by
    cases R with
    |nil=>rfl
    |cons z k2 r2=>exfalso;have e1:=congrArg (fun l=>l.head?.map (·.next)) c1;have e2:=congrArg (fun l=>l.head?) hm;rw[←c1] at e2;simp only[Fo.flat,List.map_cons,List.head?_cons,Option.some.injEq] at e2;unfold plOf Fo.mk at e2;simp only[Prod.mk.injEq] at e2;have:=e2.2.2;simp only[Fo.isNil,if_true,Bool.false_eq_true,if_false] at this;omega
   subst hR;exact⟨y,K,c1,by omega,h2,k2⟩
end Go.Proofs.YtnlacmnoocigiaaGreatDoor
namespace Go.Proofs.YtnlacmnoocigiaaGreatDoor
open Go.Lib
def putA (l:List (List UInt8×List UInt8)):List UInt8:=l.flatMap fun p=>32::(p.1++61::34::(encL true p.2++[34]))
theorem zqg (p:List UInt8×List UInt8)(l:List (List UInt8×List UInt8)):putA (p::l)=32::(p.1++61::34::(encL true p.2++[34]))++putA l:=by simp[putA]
def zks (p:List UInt8×List UInt8):Prop:=(z0l p.1).isSome=true∧(z0h p.2).2=0
structure PartM where
 kind:Int
 name:List UInt8
 attrs:List (List UInt8×List UInt8)
 text:List UInt8
 remark:Bool
theorem ztu (attr:Bool)(b:UInt8):(escL attr b).length≤6:=by
 unfold escL
 repeat' split
 all_goals simp
theorem zkt (attr:Bool)(l:List UInt8):(encL attr l).length≤6*l.length:=by
 induction l with
 |nil=>simp[encL]
 |cons b l ih=>unfold encL at ih⊢;rw[List.flatMap_cons,List.length_append,List.length_cons];have:=ztu attr b;omega
end Go.Proofs.YtnlacmnoocigiaaGreatDoor
namespace Go.Proofs.YtnlacmnoocigiaaGreatDoor
def nmL (x:NodeM):List UInt8:=x.name.data.toList
def txL (x:NodeM):List UInt8:=x.text.data.toList
def atL (x:NodeM):List (List UInt8×List UInt8):=x.attrs.map fun a=>(a.1.data.toList,a.2.data.toList)
def bare (x:NodeM)(k:Fo):Prop:=x.text.size=0∧k.isNil=true
instance (x :NodeM) (k:Fo):Decidable (bare x k):=inferInstanceAs (Decidable (_∧_))
def Fo.wr :Fo→List UInt8
 |.nil=>[]
 |.cons x k r=>60::(nmL x++(putA (atL x)++(if bare x k then [47,62] else 62::(encL false (txL x)++(k.wr++(60::47::(nmL x++[62])))))))++r.wr
structure Good (x:NodeM):Prop where
 name:(z0l (nmL x)).isSome=true
 attrs:∀p∈atL x,zks p
 few:x.attrs.length≤32
 sorted:x.attrs.Pairwise ltA
 text:(z0h (txL x)).2=0
 blank:x.text.size=0∨z23 x.text=false
theorem zwp (x:NodeM):(atL x).length=x.attrs.length:=by unfold atL;rw[List.length_map]
def zdl (x:NodeM):NodeM:={x with at_:=0}
theorem zku {s:ByteArray}(h:s.size=0):s=⟨#[]⟩:=ByteArray.ext (Array.size_eq_zero_iff.1 h)
end Go.Proofs.YtnlacmnoocigiaaGreatDoor
