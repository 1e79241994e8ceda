/- Tokens in plain Lean: what is cut is good (names, values, texts), and not much longer than the text. -/
import Derived.Test.YtnlacmnoocigiaaGreatDoorTrkAll
import Derived.Test.YtnlacmnoocigiaaGreatDoorTreGt
import Derived.Test.YtnlacmnoocigiaaGreatDoorTrlEf
import Derived.Test.YtnlacmnoocigiaaGreatDoorTreNo
import Derived.Test.YtnlacmnoocigiaaGreatDoorTrnAb
import Derived.Test.YtnlacmnoocigiaaGreatDoorTrsNs
namespace Go.Proofs.YtnlacmnoocigiaaGreatDoor
def z4q :List RawA→Nat
 |[]=>0
 |a::l=>a.name.length+a.value.length+z4q l
theorem zde :∀a b:List RawA,z4q (a++b)=z4q a+z4q b
 |[],b=>by simp[z4q]
 |x::a,b=>by rw[List.cons_append,z4q,z4q,zde a b];omega
def z29 :List (List UInt8×List UInt8)→Nat
 |[]=>0
 |a::l=>a.1.length+a.2.length+z29 l
theorem zm2 {l:List UInt8}{a:RawA}{k:Nat}(h:z1p l=some (a,k)):(z0l a.name).isSome=true∧a.name.length+a.value.length≤k:=by
 unfold z1p at h;split at h
 · cases h
 · rename_i h0;split at h
   · cases h
   · split at h
     · simp only[Option.some.injEq,Prod.mk.injEq] at h;obtain⟨rfl,rfl⟩:=h;obtain⟨r,hr⟩:=z8x (l:=l) (by omega);refine⟨Option.isSome_iff_exists.2 ⟨r,hr⟩, ?_⟩;simp only[List.length_take];unfold z2x;omega
     · cases h
theorem zby :∀(f:Nat) (l:List UInt8) (at_:Nat) (acc:List RawA) (kind:Nat) (ats:List RawA) (k:Nat),z6y f l at_ acc=some (kind,ats,k)→(∀a∈acc,(z0l a.name).isSome=true)→
 (∀a∈ats,(z0l a.name).isSome=true)∧z4q ats+at_≤z4q acc+k
 |0,_,_,_,_,_,_,h,_=>by cases h
 |f+1,l,at_,acc,kind,ats,k,h,ha=>by
  rw[z6y] at h;split at h
  · cases h;exact⟨ha,by omega⟩
  · split at h
    · cases h;exact⟨ha,by omega⟩
    · split at h
      · cases h
      · split at h
        · cases h
        · rename_i a k2 hp;obtain⟨g1,g2⟩:=zm2 hp
          obtain⟨c1,c2⟩:=zby f _ _ _ _ _ _ h (fun x hx=>by
           rcases List.mem_append.1 hx with hx|hx
           · exact ha x hx
           · rw[List.mem_singleton] at hx;subst hx;exact g1)
          refine⟨c1, ?_⟩;rw[zde] at c2;simp only[z4q] at c2;omega
theorem zdf :∀{l:List RawA} {r:List (List UInt8×List UInt8)},z26 l=.inl r→(∀a∈l,(z0l a.name).isSome=true)→(∀p∈r,zks p)∧z29 r≤4*z4q l
 |[],r,h,_=>by cases h;exact⟨fun p hp=>(by cases hp),by simp[z29]⟩
 |a::l,r,h,ha=>by
  rw[z26] at h;split at h
  · cases h
  · rename_i he;have he:(z04 a.value).2.2=0:=Decidable.not_not.1 he;have hd:=zbj he;have hl:=zet hd
    cases hr:z26 l with
    |inr x=>rw[hr] at h;cases h
    |inl r2=>
     rw[hr] at h;cases h;obtain⟨g1,g2⟩:=zdf hr (fun x hx=>ha x (by simp[hx]));refine⟨fun p hp=> ?_, ?_⟩
     · rcases List.mem_cons.1 hp with rfl|hp
       · exact⟨ha a (by simp),(z9e _).2 hd.isU⟩
       · exact g1 p hp
     · simp only[z29,z4q];omega
structure TokG (t:Tok):Prop where
 tag:t.kind≠4→(z0l t.name).isSome=true
 attrs:∀p∈t.attrs,zks p
 few:t.attrs.length≤32
 text:(z0h t.text).2=0
def wT (t:Tok):Nat:=t.name.length+t.text.length+z29 t.attrs
def sumW :List Tok→Nat
 |[]=>0
 |t::l=>wT t+sumW l
theorem zpm {l:List UInt8}{kind:Nat}{name:List UInt8}{vs:List (List UInt8×List UInt8)}{k:Nat}(h:tagR l=.inl (kind,name,vs,k)):
 (z0l name).isSome=true∧(∀p∈vs,zks p)∧name.length+z29 vs≤4*k:=by
 have h32:=(z9m h).2.2.2.2.2.1;unfold tagR at h
 cases ht:tagP l with
 |none=>rw[ht] at h;cases h
 |some x=>
  obtain⟨kd,nm,ats,k2⟩:=x;rw[ht] at h;simp only at h
  cases hr:z26 ats with
  |inr y=>rw[hr] at h;cases h
  |inl vs2=>
   rw[hr] at h;simp only at h;split at h
   · cases h
   · cases h
     have key:(z0l name).isSome=true∧(∀a∈ats,(z0l a.name).isSome=true)∧name.length+z4q ats≤k:=by
      unfold tagP at ht;split at ht
      · split at ht
        · cases ht
        · rename_i h0;cases ht;obtain⟨r,hr⟩:=z8x (l:=l.drop 2) (by omega);refine⟨Option.isSome_iff_exists.2 ⟨r,hr⟩,fun a ha=>(by cases ha), ?_⟩;simp only[List.length_take,z4q];omega
      · split at ht
        · cases ht
        · rename_i h0;split at ht
          · cases ht
          · rename_i hp;cases ht;obtain⟨r,hr⟩:=z8x (l:=l.drop 1) (by omega);obtain⟨c1,c2⟩:=zby _ _ _ _ _ _ _ hp (fun a ha=>(by cases ha));refine⟨Option.isSome_iff_exists.2 ⟨r,hr⟩,c1, ?_⟩;simp only[List.length_take];simp only[z4q] at c2;omega
     obtain⟨k1,k2,k3⟩:=key;obtain⟨g1,g2⟩:=zdf hr k2;exact⟨k1,g1,by omega⟩
theorem zpn :∀(l:List UInt8) (at_:Nat) (acc:List Tok),(tokS l at_ acc).2.2=0→∃more,(tokS l at_ acc).1=acc++more∧(∀t∈more,TokG t)∧sumW more≤4*l.length∧more.length≤l.length:=by
 refine zim (fun at_ acc h=> ?_) (fun l h0 h1 ih at_ acc h=> ?_) (fun l h ih at_ acc h=> ?_) (fun l p e h1 h2 h3 at_ acc h=> ?_) (fun l kind name vs k h1 h2 h3 ih at_ acc h=> ?_)
 · exact⟨[],by simp[zap],fun t ht=>(by cases ht),by simp[sumW],by simp⟩
 · have hp:=z54 h0 h1;have hle:=z14 (· !=60) l;rw[z71 h0 h1] at h⊢;by_cases he:(z04 (l.takeWhile (· !=60))).2.2≠0
   · rw[if_pos he] at h;exact absurd h he
   · rw[if_neg he] at h⊢;obtain⟨more,g1,g2,g3,g4⟩:=ih _ _ h;have hdec:=zbj (Decidable.not_not.1 he);have hd:=zet hdec;rw[List.length_drop] at g3 g4;refine⟨_::more,by rw[g1,List.append_assoc];rfl,fun t ht=> ?_, ?_, ?_⟩
     · rcases List.mem_cons.1 ht with rfl|ht
       · exact⟨fun h=>absurd rfl h,fun p hp=>(by cases hp),by simp,(z9e _).2 hdec.isU⟩
       · exact g2 t ht
     · simp only[sumW,wT,z29,List.length_nil];omega
     · simp only[List.length_cons];omega
 · rename_i hr;have:=z3n l;rw[z4p hr] at h⊢;obtain⟨more,g1,g2,g3,g4⟩:=ih _ _ h;rw[List.length_drop] at g3 g4;exact⟨more,g1,g2,by omega,by omega⟩
 · rw[z56 h1 h2,h3] at h;exact absurd h (zaq h3).1
 · obtain⟨-, -,f3,f4, -,f6, -⟩:=z9m h3;obtain⟨c1,c2,c3⟩:=zpm h3;rw[z56 h1 h2,h3] at h⊢;obtain⟨more,g1,g2,g3,g4⟩:=ih _ _ h;rw[List.length_drop] at g3 g4;refine⟨_::more,by rw[g1,List.append_assoc];rfl,fun t ht=> ?_, ?_, ?_⟩
   · rcases List.mem_cons.1 ht with rfl|ht
     · exact⟨fun _=>c1,c2,f6,rfl⟩
     · exact g2 t ht
   · simp only[sumW,wT,List.length_nil];omega
   · simp only[List.length_cons];omega
theorem zpo {s:List UInt8}(h:(tokR s).2.2=0):(∀t∈(tokR s).1,TokG t)∧sumW (tokR s).1≤4*s.length∧(tokR s).1.length≤s.length:=by
 unfold tokR at h⊢;split
 · exact⟨fun t ht=>(by cases ht),by simp[sumW],by simp⟩
 · rename_i hs;rw[if_neg hs] at h;split
   · exact⟨fun t ht=>(by cases ht),by simp[sumW],by simp⟩
   · rename_i hv;rw[if_neg hv] at h;obtain⟨more,g1,g2⟩:=zpn s 0 [] h;rw[g1,List.nil_append];exact g2
end Go.Proofs.YtnlacmnoocigiaaGreatDoor
namespace Go.Proofs.YtnlacmnoocigiaaGreatDoor
def sumL :List Nat→Nat
 |[]=>0
 |x::l=>x+sumL l
theorem zeq :∀a b:List Nat,sumL (a++b)=sumL a+sumL b
 |[],b=>by simp[sumL]
 |x::a,b=>by rw[List.cons_append,sumL,sumL,zeq a b];omega
theorem zkd :∀(l:List Nat) (i v:Nat),sumL (l.set i v)+l[i]?.getD 0≤sumL l+v
 |[],i,v=>by simp[sumL]
 |x::l,0,v=>by simp[sumL];omega
 |x::l,i+1,v=>by have:=zkd l i v;rw[List.set_cons_succ,List.getElem?_cons_succ,sumL,sumL];omega
def hW (x:NodeM):Nat:=x.name.size+z29 (atL x)
def zte (x:NodeM):Nat:=hW x+x.text.size
theorem zgp {f:NodeM→NodeM}(hf:∀x,(f x).name=x.name∧(f x).attrs=x.attrs)(l:List NodeM)(i:Nat):(l.modify i f).map hW=l.map hW:=by rw[z0x (g:=hW) (f:=f) (f':=fun x=>x) (fun x=>by unfold hW atL;rw[(hf x).1,(hf x).2]),z38]
theorem zwg (l:List NodeM)(p k:Int)(n:Nat):(z27 l p k n).map hW=l.map hW:=by
 unfold z27;split
 · exact zgp (f:=fstN n) (fun _=>⟨rfl,rfl⟩) _ _
 · exact zgp (f:=nxtN n) (fun _=>⟨rfl,rfl⟩) _ _
theorem Good.places {x y:NodeM}(h:Good x)(h1:y.name=x.name)(h2:y.attrs=x.attrs)(h3:y.text=x.text):Good y:=by obtain⟨a,b,c,d,e,f⟩:=h;unfold nmL at a;unfold atL at b;unfold txL at e;exact⟨by unfold nmL;rw[h1];exact a,by unfold atL;rw[h2];exact b,by rw[h2];exact c,by rw[h2];exact d,by unfold txL;rw[h3];exact e,by rw[h3];exact f⟩
theorem z67 {f:NodeM→NodeM}(hf:∀x,Good x→Good (f x)):∀{l:List NodeM} {i:Nat},(∀x∈l,Good x)→∀x∈l.modify i f,Good x
 |[],i,h=>by simp
 |y::l,0,h=>by
  intro x hx;rw[List.modify_zero_cons] at hx;rcases List.mem_cons.1 hx with rfl|hx
  · exact hf y (h y (by simp))
  · exact h x (by simp[hx])
 |y::l,i+1,h=>by
  intro x hx;rw[List.modify_succ_cons] at hx;rcases List.mem_cons.1 hx with rfl|hx
  · exact h x (by simp)
  · exact z67 hf (fun z hz=>h z (by simp[hz])) x hx
theorem zpp {l:List NodeM}{p k:Int}{n:Nat}(h:∀x∈l,Good x):∀x∈z27 l p k n,Good x:=by
 unfold z27;split
 · exact z67 (f:=fstN n) (fun x hx=>hx.places rfl rfl rfl) h
 · exact z67 (f:=nxtN n) (fun x hx=>hx.places rfl rfl rfl) h
theorem ztf (l:List NodeM)(p k:Int)(n:Nat):(z27 l p k n).map (·.parent)=l.map (·.parent):=by
 unfold z27;split
 · rw[z0x (g:=fun y:NodeM=>y.parent) (f:=fstN n) (f':=fun x=>x) (fun _=>rfl),z38]
 · rw[z0x (g:=fun y:NodeM=>y.parent) (f:=nxtN n) (f':=fun x=>x) (fun _=>rfl),z38]
theorem zwh (l:List NodeM)(p k:Int)(n:Nat):(z27 l p k n).map plOf=lnkP (l.map plOf) p k n:=by
 unfold z27 lnkP;split
 · exact z0x (g:=plOf) (f:=fstN n) (f':=fstP n) (fun _=>rfl) _ _
 · exact z0x (g:=plOf) (f:=nxtN n) (f':=nxtP n) (fun _=>rfl) _ _
theorem zgq :∀{a c:List Int} {b b':LkM},z41 b a=some b'→z41 b (a++c)=z41 b' c
 |[],c,b,b',h=>by cases h;rfl
 |p::a,c,b,b',h=>by
  rw[z41] at h;rw[List.cons_append,z41]
  cases hs:z2i b p with
  |none=>rw[hs] at h;cases h
  |some b2=>rw[hs] at h;exact zgq h
theorem zpq {t:Nat}{r:List Nat}:∀{pre:List Nat},(pre++t::r).Pairwise (· >·)→popO (t:Int) (pre++t::r)=t::r
 |[],_=>by rw[List.nil_append,popO,if_pos rfl]
 |s::pre,h=>by rw[List.cons_append,List.pairwise_cons] at h;have:=h.1 t (by simp);rw[List.cons_append,popO,if_neg (by omega),zpq h.2]
structure ParB (b:LkM)(B:BldM)(c n:Nat):Prop where
 run:z41 lk0 (B.nodes.map (·.parent))=some b
 pl:b.pl=B.nodes.map plOf
 last:b.last=B.lasts
 ch:ChainO (b.pl.map (·.1)) b.opn
 dec:b.opn.Pairwise (· >·)
 st:∃pre r,b.opn=pre++r∧B.inn=topI r∧B.deep=r.length
 good:∀x∈B.nodes,Good x
 texts:∀t∈B.texts,(z0h t.data.toList).2=0
 tl:B.texts.length=B.nodes.length
 le:∀(i:Nat) (x:NodeM) (t:ByteArray),B.nodes[i]? =some x→B.texts[i]? =some t→x.text.size≤t.size
 sum:sumL (B.nodes.map hW)+sumL (B.texts.map (·.size))≤c
 cnt:B.nodes.length≤n
theorem ParB.init :ParB lk0 initM 0 0:=⟨rfl,rfl,rfl,trivial,.nil,⟨[],[],rfl,rfl,rfl⟩,fun x hx=>(by cases hx),fun x hx=>(by cases hx),rfl,fun i x t h=>(by cases h),Nat.le_refl _,Nat.le_refl _⟩
theorem ParB.more {b:LkM}{B:BldM}{c n c' n':Nat}(h:ParB b B c n)(h1:c≤c')(h2:n≤n'):ParB b B c' n':=⟨h.run,h.pl,h.last,h.ch,h.dec,h.st,h.good,h.texts,h.tl,h.le,Nat.le_trans h.sum h1,Nat.le_trans h.cnt h2⟩
theorem zgr {a b:List (List UInt8×List UInt8)}(h:a.Perm b):z29 a=z29 b:=by
 induction h with
 |nil=>rfl
 |cons x _ ih=>rw[z29,z29,ih]
 |swap x y l=>rw[z29,z29,z29,z29];omega
 |trans _ _ h1 h2=>exact h1.trans h2
theorem zio (l:List UInt8):(bs l).data.toList=l:=by unfold bs;simp
theorem bs_size (l:List UInt8):(bs l).size=l.length:=by unfold bs;show l.toArray.size=_;simp
theorem zke (x:Tok)(p:Int):(atL (newN x p)).Perm x.attrs:=by
 unfold atL newN;have h:=(z5q (z01 x)).map (fun a:ByteArray×ByteArray=>(a.1.data.toList,a.2.data.toList))
 have e:(z01 x).map (fun a:ByteArray×ByteArray=>(a.1.data.toList,a.2.data.toList))=x.attrs:=by
  unfold z01;rw[List.map_map];have:((fun a:ByteArray×ByteArray=>(a.1.data.toList,a.2.data.toList))∘fun p:List UInt8×List UInt8=>(bs p.1,bs p.2))=id:=by funext q;simp only[Function.comp,zio,id]
  rw[this,List.map_id]
 rw[e] at h;exact h
theorem zpr {x:Tok}(hx:TokG x)(h4:x.kind≠4)(hd:¬dupA (z01 x))(p:Int):Good (newN x p):=by
 have hp:=zke x p;refine⟨?_, ?_, ?_, ?_,rfl,.inl rfl⟩
 · show (z0l (bs x.name).data.toList).isSome=true;rw[zio];exact hx.tag h4
 · exact fun q hq=>hx.attrs q (hp.mem_iff.1 hq)
 · have:=hp.length_eq;rw[zwp] at this;rw[this];exact hx.few
 · exact z73 (Decidable.not_not.1 hd)
theorem ParB.opens {b:LkM}{B B':BldM}{c n:Nat}(h:ParB b B c n){x:Tok}(hx:TokG x)(h4:x.kind≠4)(hs:z0n B x=.inl B'):∃b',ParB b' B' (c+wT x) (n+1):=by
 unfold z0n at hs;split at hs
 · cases hs
 · rename_i hno;split at hs
   · cases hs
   · rename_i hl;cases hs;have hwf:=(z7a WfL.init h.run).1;obtain⟨pre,r,s1,s2,s3⟩:=h.st;have hlen:b.pl.length=B.nodes.length:=by rw[h.pl,List.length_map]
     have hnil:B.inn= -1↔r=[]:=by
      rw[s2]
      cases r with
      |nil=>simp[topI]
      |cons t r=>simp only[topI,reduceCtorEq,iff_false];first|done|omega
     have hroot:B.inn= -1→b.pl=[]:=fun e=>by rw[h.pl];have:B.nodes=[]:=Decidable.not_not.1 fun e2=>hno (.inl ⟨e,e2⟩);rw[this];rfl
     have hpop:popO B.inn b.opn=r:=by
      cases r with
      |nil=>
       have h0:=hroot (hnil.2 rfl)
       have:b.opn=[]:=by
        cases ho:b.opn with
        |nil=>rfl
        |cons t q=>have:=hwf.o t (by rw[ho];simp);rw[h0] at this;exact absurd this (by simp)
       rw[this];rfl
      |cons t r=>rw[s2,s1];have:=h.dec;rw[s1] at this;exact zpq this
     have hpl:b.pl=[]↔B.inn= -1:=by
      refine⟨fun e=> ?_,hroot⟩;rw[hnil]
      cases r with
      |nil=>rfl
      |cons t r=>have:=hwf.o t (by rw[s1];simp);rw[e] at this;exact absurd this (by simp)
     have hbad:¬zcp b B.inn:=by
      unfold zcp;rw[hpop];rintro(e|⟨e1,e2⟩|e)
      · exact e (hnil.symm.trans hpl.symm)
      · exact e2 (hpl.1 e1)
      · exact hl (.inr (s3.trans e))
     have hstep:z2i b B.inn=some (z2p b B.inn):=by unfold z2i;rw[if_neg hbad]
     have hla:z2a B=z79 b B.inn:=by unfold z2a z79;rw[h.last]
     have hnewpl:plOf (newN x B.inn)=(B.inn, -1, -1):=rfl
     have hnodes:∀{β:Type} (g:NodeM→β) (G:List β→List β),(∀l p k n,(z27 l p k n).map g=l.map g)→(if B.inn= -1 then B.nodes++[newN x B.inn] else z27 (B.nodes++[newN x B.inn]) B.inn (z2a B) B.nodes.length).map g=B.nodes.map g++[g (newN x B.inn)]:=by
      intro β g G hg;split
      · rw[List.map_append];rfl
      · rw[hg,List.map_append];rfl
     have hpar:=hnodes (·.parent) id (fun l p k n=>ztf l p k n);have hhw:=hnodes hW id (fun l p k n=>zwg l p k n);have hlen2:(if B.inn= -1 then B.nodes++[newN x B.inn] else z27 (B.nodes++[newN x B.inn]) B.inn (z2a B) B.nodes.length).length=B.nodes.length+1:=by have:=congrArg List.length hpar;rw[List.length_map,List.length_append,List.length_map] at this;exact this
     refine⟨z2p b B.inn,⟨?_, ?_, ?_, ?_, ?_, ?_, ?_, ?_, ?_, ?_, ?_, ?_⟩⟩
     · simp only;rw[hpar,zgq h.run,z41,show (newN x B.inn).parent=B.inn from rfl,hstep];rfl
     · simp only;unfold z2p;simp only;by_cases h0:b.pl=[]
       · rw[if_pos h0,if_pos (hpl.1 h0)];have:B.nodes=[]:=by have:=h0;rw[h.pl] at this;exact List.map_eq_nil_iff.1 this
         rw[this];rfl
       · rw[if_neg h0,if_neg (fun e=>h0 (hpl.2 e)),zwh,List.map_append,←h.pl,hla,←hlen];rfl
     · simp only;unfold z2p;simp only;by_cases h0:b.pl=[]
       · have hl0:b.last=[]:=List.eq_nil_of_length_eq_zero (by rw[hwf.len,h0];rfl);rw[if_pos h0,if_pos (hpl.1 h0),←h.last,hl0];rfl
       · rw[if_neg h0,if_neg (fun e=>h0 (hpl.2 e)),h.last,hlen]
     · show ChainO _ (b.pl.length::popO B.inn b.opn);rw[zc8,hpop];refine⟨?_, ?_⟩
       · rw[List.getElem?_append_right (by rw[List.length_map];exact Nat.le_refl _),List.length_map,Nat.sub_self,←s2];rfl
       · have:=h.ch;rw[s1] at this;exact this.drop.app
     · show (b.pl.length::popO B.inn b.opn).Pairwise (· >·);rw[hpop,List.pairwise_cons];refine⟨fun t ht=>hwf.o t (by rw[s1];simp[ht]), ?_⟩;have:=h.dec;rw[s1,List.pairwise_append] at this;exact this.2.1
     · refine⟨[],b.pl.length::r, ?_, ?_, ?_⟩
       · show b.pl.length::popO B.inn b.opn=_;rw[hpop];rfl
       · simp only;rw[hlen];rfl
       · simp only;rw[s3];rfl
     · simp only
       have happ:∀y∈B.nodes++[newN x B.inn],Good y:=by
        intro y hy;rcases List.mem_append.1 hy with hy|hy
        · exact h.good y hy
        · rw[List.mem_singleton] at hy;subst hy;exact zpr hx h4 (fun e=>hno (.inr e)) _
       split
       · exact happ
       · exact zpp happ
     · simp only;intro t ht;rcases List.mem_append.1 ht with ht|ht
       · exact h.texts t ht
       · rw[List.mem_singleton] at ht;subst ht;rfl
     · simp only;rw[hlen2,List.length_append,h.tl];rfl
     · simp only;intro i y t hy ht
       have htx:=hnodes (fun z:NodeM=>z.text) id (fun l p k n=>by
        unfold z27;split
        · rw[z0x (g:=fun z:NodeM=>z.text) (f:=fstN n) (f':=fun x=>x) (fun _=>rfl),z38]
        · rw[z0x (g:=fun z:NodeM=>z.text) (f:=nxtN n) (f':=fun x=>x) (fun _=>rfl),z38])
       have h1:=congrArg (fun l=>l[i]?) htx;try simp only at h1
       rw[List.getElem?_map,hy,Option.map_some] at h1;by_cases hi:i<B.nodes.length
       · rw[List.getElem?_append_left (by rw[List.length_map];exact hi),List.getElem?_map,List.getElem?_eq_getElem hi] at h1;rw[List.getElem?_append_left (by rw[h.tl];exact hi)] at ht;have h2:=h.le i _ t (List.getElem?_eq_getElem hi) ht;simp only[Option.map_some,Option.some.injEq] at h1;rw[h1];exact h2
       · rw[List.getElem?_append_right (by rw[List.length_map];omega),List.length_map] at h1;have h3:=(List.getElem?_eq_some_iff.1 hy).1;rw[hlen2] at h3;rw[show i - B.nodes.length=0 from by omega] at h1;simp only[List.getElem?_cons_zero,Option.some.injEq] at h1;rw[h1];exact Nat.zero_le _
     · simp only;have hs:=h.sum;rw[hhw,zeq,List.map_append,zeq];simp only[List.map_cons,List.map_nil,sumL];have hh:hW (newN x B.inn)=x.name.length+z29 x.attrs:=by unfold hW;rw[zgr (zke x B.inn),show (newN x B.inn).name=bs x.name from rfl,bs_size]
       rw[hh];unfold wT;have:(⟨#[]⟩:ByteArray).size=0:=rfl;omega
     · simp only;rw[hlen2];have:=h.cnt;omega
theorem ParB.ends {b:LkM}{B:BldM}{c n:Nat}(h:ParB b B c n)(hi:B.inn≠ -1):ParB b (z3x B) c n:=by
 obtain⟨pre,r,s1,s2,s3⟩:=h.st
 cases r with
 |nil=>exact absurd s2 hi
 |cons t r=>
  have s2:B.inn=(t:Int):=s2;have hch:=h.ch;rw[s1] at hch;have hch:=(ChainO.drop hch).1;rw[h.pl,List.map_map,List.getElem?_map,Option.map_eq_some_iff] at hch;obtain⟨y,hy,hy2⟩:=hch;have hn:z3e B=y:=by unfold z3e;rw[s2,Int.toNat_natCast,hy];rfl
  have hmod:∀{β:Type} (g:NodeM→β),(∀z,g (txtN (z11 B) z)=g z)→(z3x B).nodes.map g=B.nodes.map g:=by
   intro β g hg;unfold z3x;simp only;split
   · rfl
   · rw[z0x (g:=g) (f:=txtN (z11 B)) (f':=fun x=>x) hg,z38]
  have htv:(z0h (z11 B).data.toList).2=0:=by
   unfold z11
   cases hg:B.texts[B.inn.toNat]? with
   |none=>rfl
   |some z=>exact h.texts z (List.mem_of_getElem? hg)
  refine⟨?_, ?_,h.last,h.ch,h.dec,⟨pre++[t],r, ?_, ?_, ?_⟩, ?_,h.texts, ?_, ?_, ?_, ?_⟩
  · rw[hmod (·.parent) (fun _=>rfl)];exact h.run
  · rw[hmod plOf (fun _=>rfl)];exact h.pl
  · rw[s1,List.append_assoc];rfl
  · show (z3e B).parent=_;rw[hn];exact hy2
  · show B.deep - 1=_;rw[s3];rfl
  · unfold z3x;simp only;split
    · exact h.good
    · rename_i hb;refine z67 (fun x hx=> ?_) h.good;obtain⟨a1,a2,a3,a4,a5,a6⟩:=hx;exact⟨a1,a2,a3,a4,htv,.inr (by show z23 (z11 B)=false;simpa using hb)⟩
  · have:=congrArg List.length (hmod (·.parent) (fun _=>rfl));rw[List.length_map,List.length_map] at this;rw[this];exact h.tl
  · intro i x t2 hx ht;unfold z3x at hx ht;simp only at hx ht;split at hx
    · exact h.le i x t2 hx ht
    · rw[List.getElem?_modify] at hx
      cases hg:B.nodes[i]? with
      |none=>rw[hg] at hx;cases hx
      |some z=>
       rw[hg] at hx;have h2:=h.le i z t2 hg ht;by_cases hii:B.inn.toNat=i
       · simp only[hii,if_true,Option.map_eq_map,Option.map_some,Option.some.injEq] at hx;subst hx;show (z11 B).size≤_;unfold z11;rw[hii,ht];exact Nat.le_refl _
       · simp only[hii,if_false,id_eq,Option.map_eq_map,Option.map_some,Option.some.injEq] at hx;subst hx;exact h2
  · rw[hmod hW (fun _=>rfl)];exact h.sum
  · have:=congrArg List.length (hmod (·.parent) (fun _=>rfl));rw[List.length_map,List.length_map] at this;rw[this];exact h.cnt
theorem zps {a b:ByteArray}(ha:(z0h a.data.toList).2=0)(hb:(z0h b.data.toList).2=0):(z0h (a++b).data.toList).2=0:=by rw[z9e] at*;rw[ByteArray.data_append,Array.toList_append];exact ha.append hb
theorem zm3 {B B':BldM}{x:Tok}(h:z0n B x=.inl B'):B'.inn≠ -1:=by
 unfold z0n at h;split at h
 · cases h
 · split at h
   · cases h
   · cases h;simp only;omega
theorem ParB.step {b:LkM}{B B':BldM}{c n:Nat}(h:ParB b B c n){x:Tok}(hx:TokG x)(hk:x.kind=1∨x.kind=2∨x.kind=3∨x.kind=4)(hs:z1l B x=.inl B'):∃b',ParB b' B' (c+wT x) (n+1):=by
 rcases hk with hk|hk|hk|hk
 · rw[zdj hk] at hs;exact h.opens hx (by omega) hs
 · rw[zc6 hk] at hs;unfold z1r at hs;split at hs
   · cases hs
   · rename_i hb;cases hs;exact⟨b,(h.ends (fun e=>hb (.inl e))).more (by omega) (by omega)⟩
 · rw[zh4 hk] at hs;unfold z4r at hs
   cases ho:z0n B x with
   |inr e=>rw[ho] at hs;cases hs
   |inl B2=>rw[ho] at hs;cases hs;obtain⟨b2,h2⟩:=h.opens hx (by omega) ho;exact⟨b2,h2.ends (zm3 ho)⟩
 · rw[zdk hk] at hs;unfold z6k at hs;split at hs
   · cases hs;refine⟨b,⟨h.run,h.pl,h.last,h.ch,h.dec,h.st,h.good, ?_, ?_, ?_, ?_,by have:=h.cnt;simp only;omega⟩⟩
     · intro t ht;rcases List.mem_or_eq_of_mem_set ht with ht|rfl
       · exact h.texts t ht
       · refine zps ?_ (by rw[zio];exact hx.text);unfold z11
         cases hg:B.texts[B.inn.toNat]? with
         |none=>rfl
         |some z=>exact h.texts z (List.mem_of_getElem? hg)
     · simp only;rw[List.length_set];exact h.tl
     · intro i y t hy ht;simp only at hy ht;rw[List.getElem?_set] at ht;split at ht
       · rename_i hii;split at ht
         · rename_i hlt;cases ht;have h2:=h.le i y _ hy (by rw[←hii];exact List.getElem?_eq_getElem hlt);rw[ByteArray.size_append];have h3:(z11 B).size=B.texts[B.inn.toNat].size:=by unfold z11;rw[List.getElem?_eq_getElem hlt];rfl
           omega
         · cases ht
       · exact h.le i y t hy ht
     · have hs:=h.sum;simp only;rw[List.map_set];have h1:=zkd (B.texts.map (·.size)) B.inn.toNat (z11 B++bs x.text).size
       have h2:(B.texts.map (·.size))[B.inn.toNat]?.getD 0=(z11 B).size:=by
        unfold z11;rw[List.getElem?_map]
        cases B.texts[B.inn.toNat]? with
        |none=>rfl
        |some z=>rfl
       rw[h2,ByteArray.size_append,bs_size] at h1;rw[ByteArray.size_append,bs_size];unfold wT;omega
   · split at hs
     · cases hs;exact⟨b,h.more (by omega) (by omega)⟩
     · cases hs
theorem ParB.run_ :∀{T:List Tok} {b:LkM} {B B':BldM} {c n:Nat},ParB b B c n→(∀t∈T,TokG t)→KindOk T→runM B T=.inl B'→∃b',ParB b' B' (c+sumW T) (n+T.length)
 |[],b,B,B',c,n,h,_,_,hr=>by cases hr;exact⟨b,h⟩
 |x::T,b,B,B',c,n,h,hg,hk,hr=>by
  rw[runM] at hr
  cases hs:z1l B x with
  |inr e=>rw[hs] at hr;cases hr
  |inl B2=>
   rw[hs] at hr;obtain⟨b2,h2⟩:=h.step (hg x (by simp)) (hk x (by simp)) hs;obtain⟨b3,h3⟩:=ParB.run_ h2 (fun t ht=>hg t (by simp[ht])) hk.tail hr;refine⟨b3,h3.more ?_ ?_⟩
   · simp only[sumW];omega
   · simp only[List.length_cons];omega
theorem zwi {N:List NodeM}:∀{T:List ByteArray},T.length=N.length→(∀(i:Nat) (x:NodeM) (t:ByteArray),N[i]? =some x→T[i]? =some t→x.text.size≤t.size)→sumL (N.map (·.text.size))≤sumL (T.map (·.size)):=by
 induction N with
 |nil=>intro T _ _;exact Nat.zero_le _
 |cons x N ih=>
  intro T hl h
  cases T with
  |nil=>cases hl
  |cons t T=>have h1:=h 0 x t rfl rfl;have h2:=ih (T:=T) (by simpa using hl) (fun i y u hy hu=>h (i+1) y u hy hu);simp only[List.map_cons,sumL];omega
theorem ztg (N:List NodeM):sumL (N.map zte)=sumL (N.map hW)+sumL (N.map (·.text.size)):=by
 induction N with
 |nil=>rfl
 |cons x N ih=>simp only[List.map_cons,sumL,ih];unfold zte;omega
structure Parsed (s:List UInt8)(N:List NodeM):Prop where
 good:∀x∈N,Good x
 ne:N≠[]
 len:N.length≤4096
 lk:∃b,z41 lk0 (N.map (·.parent))=some b∧b.pl=N.map plOf
 sum:sumL (N.map zte)≤4*s.length
 cnt:N.length≤s.length
theorem zth {b:BldM}{x:Tok}{e:Int}(h:z1l b x=.inr e):e≠0:=by
 have hop:∀e,z0n b x=.inr e→e≠0:=by
  intro e h;unfold z0n at h;split at h
  · cases h;decide
  · split at h
    · cases h;decide
    · cases h
 unfold z1l at h;split at h
 · exact hop e h
 · split at h
   · unfold z1r at h;split at h
     · cases h;decide
     · cases h
   · split at h
     · unfold z4r at h
       cases ho:z0n b x with
       |inl b2=>rw[ho] at h;cases h
       |inr e2=>rw[ho] at h;cases h;exact hop _ ho
     · unfold z6k at h;split at h
       · cases h
       · split at h
         · cases h
         · cases h;decide
theorem zbz :∀{T:List Tok} {B:BldM} {e:Int×Int},runM B T=.inr e→e.2≠0
 |[],B,e,h=>by cases h
 |x::T,B,e,h=>by
  rw[runM] at h
  cases hs:z1l B x with
  |inr e2=>rw[hs] at h;cases h;exact zth hs
  |inl B2=>rw[hs] at h;exact zbz h
theorem zpt :∀{T:List Tok} {B B':BldM},Inv B→runM B T=.inl B'→Inv B'
 |[],B,B',h,hr=>by cases hr;exact h
 |x::T,B,B',h,hr=>by
  rw[runM] at hr
  cases hs:z1l B x with
  |inr e=>rw[hs] at hr;cases hr
  |inl B2=>rw[hs] at hr;exact zpt (Inv.step h hs) hr
theorem zpu {s:List UInt8}{N:List NodeM}{p:Int}(h:z2v s=(N,p,0)):Parsed s N:=by
 unfold z2v at h;split at h
 · rename_i he;simp only[Prod.mk.injEq] at h;exact absurd h.2.2 he
 · rename_i he;have he:(tokR s).2.2=0:=Decidable.not_not.1 he;obtain⟨g1,g2,g3⟩:=zpo he;have hf:=(z7i he).1;have hk:KindOk (tokR s).1:=fun x hx=>by have:=(hf x hx).1;omega
   cases hr:runM initM (tokR s).1 with
   |inr e=>rw[hr] at h;unfold finM at h;simp only[Prod.mk.injEq] at h;exact absurd h.2.2 (zbz hr)
   |inl B=>
    rw[hr] at h;unfold finM at h;simp only at h;split at h
    · cases h
    · rename_i hb;cases h;obtain⟨b,hB⟩:=ParB.run_ ParB.init g1 hk hr;have hI:=zpt Inv.init hr;have hle:=zwi hB.tl hB.le;have hs:=hB.sum;refine⟨hB.good,fun e=>hb (.inr e),hI.n,⟨b,hB.run,hB.pl⟩, ?_, ?_⟩
      · rw[ztg];omega
      · have:=hB.cnt;omega
end Go.Proofs.YtnlacmnoocigiaaGreatDoor
namespace Go.Proofs.YtnlacmnoocigiaaGreatDoor
theorem z8y :∀{l:List z0b},l.Pairwise ltA→z8a l=true
 |[],_=>rfl
 |[x],_=>rfl
 |x::y::l,h=>by rw[List.pairwise_cons] at h;rw[z8a,Bool.and_eq_true,Bool.not_eq_true',decide_eq_false_iff_not];refine⟨fun hlt=> ?_,z8y h.2⟩;have h1:nmA x<nmA y:=h.1 y (by simp);exact z2o _ (z35 h1 hlt)
theorem za8 :∀{l:List z0b},l.Pairwise ltA→adjA l=false
 |[],_=>rfl
 |[x],_=>rfl
 |x::y::l,h=>by rw[List.pairwise_cons] at h;rw[adjA,Bool.or_eq_false_iff,decide_eq_false_iff_not];refine⟨fun e=> ?_,za8 h.2⟩;have h1:nmA x<nmA y:=h.1 y (by simp);rw[e] at h1;exact z2o _ h1
theorem zer {x:NodeM}(h:Good x):z6e x=true:=by
 unfold z6e;simp only[Bool.and_eq_true];refine⟨h.name, ?_, ?_, ?_⟩
 · unfold z7k;simp only[Bool.and_eq_true,Bool.not_eq_true',decide_eq_true_eq];refine⟨h.few,z8y h.sorted,za8 h.sorted, ?_⟩;rw[List.any_eq_false];intro a ha;obtain⟨k1,k2⟩:=h.attrs (a.1.data.toList,a.2.data.toList) (List.mem_map_of_mem (f:=fun a:z0b=>(a.1.data.toList,a.2.data.toList)) ha);unfold badA;simp only at k1 k2;simp[k1,k2]
 · have:=h.text;unfold txL at this;simp[this]
 · rw[Bool.or_eq_true];rcases h.blank with hb|hb
   · exact .inl (decide_eq_true hb)
   · right;unfold z23 at hb;unfold z2f;simp[hb]
theorem zgs :∀{N:List NodeM},(∀x∈N,z6e x=true)→okPl N (N.map plOf)=true
 |[],_=>rfl
 |x::N,h=>by rw[List.map_cons,okPl,h x (by simp),zgs (fun y hy=>h y (by simp[hy]))];simp[plOf]
theorem zgt {s:List UInt8}{N:List NodeM}(h:Parsed s N):z3y N=true:=by obtain⟨b,h1,h2⟩:=h.lk;have h3:N.length≠0:=fun e=>h.ne (List.eq_nil_of_length_eq_zero e);unfold z3y;rw[h1];simp only[h2,zgs (fun x hx=>zer (h.good x hx)),decide_eq_true h3,decide_eq_true h.len,Bool.and_self]
structure Fits (N:List NodeM):Prop where
 len:N.length≤1000
 sum:sumL (N.map zte)≤4000
theorem ziq {s:List UInt8}{N:List NodeM}(h:Parsed s N)(hs:s.length≤1000):Fits N:=by have h1:=h.sum;have h2:=h.cnt;exact⟨by omega,by omega⟩
theorem zir {N:List NodeM}(h:z3y N=true):∀x∈N,x.attrs.length≤32:=by obtain⟨x,k,hR⟩:=zez h;exact fun y hy=>(zj0 (hR.plain y hy)).few
end Go.Proofs.YtnlacmnoocigiaaGreatDoor
namespace Go.Proofs.YtnlacmnoocigiaaGreatDoor
open Go.RowKit Go.Lib
theorem zti {w:World}{base:Nat}{v:Value}{o:Option Nat}{X:List NodeX}(h:NodeL w base v o X):NodesRd w (fun k=>base≤k∧k<w.heap.size) v X:=⟨h.own.rd.mono (fun k hk=>h.new k hk),fun x hx=>(h.ok x hx).2.rd.mono (fun k hk=>⟨(h.newa x hx k hk).1,(h.newa x hx k hk).2.1⟩)⟩
namespace Aw
variable {Wt : List NodeM → ByteArray}
end Aw
end Go.Proofs.YtnlacmnoocigiaaGreatDoor
