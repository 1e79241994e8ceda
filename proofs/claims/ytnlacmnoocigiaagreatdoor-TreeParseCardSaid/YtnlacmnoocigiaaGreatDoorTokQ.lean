/- Tokens in plain Lean: what is read of a text stays, whatever stands behind it. -/
import Derived.Test.YtnlacmnoocigiaaGreatDoorTokPa
namespace Go.Proofs.YtnlacmnoocigiaaGreatDoor
open Go.Lib
theorem z65 {q:UInt8}:∀{r:List UInt8},q∈r→(r.takeWhile (· !=q)).length<r.length
 |[],h=>by cases h
 |b::t,hm=>by
  rw[List.takeWhile_cons];split
  · rename_i hb;have hb:b≠q:=by simpa using hb
    have:=z65 (q:=q) (r:=t) (by
     rcases List.mem_cons.1 hm with h|h
     · exact absurd h.symm hb
     · exact h)
    simp only[List.length_cons];omega
  · simp
theorem z5d :∀{q:UInt8} {r:List UInt8},q ∉ r→r.takeWhile (· !=q)=r
 |_,[],_=>rfl
 |q,b::t,h=>by rw[List.takeWhile_cons,if_pos (by simp only[bne_iff_ne,ne_eq];intro e;exact h (by simp[e])),z5d (fun hm=>h (by simp[hm]))]
theorem zpl {l:List UInt8}{i:Nat}(h:i<nB l):∃b,l[i]? =some b∧z0z b=true:=by
 unfold nB at h
 induction l generalizing i with
 |nil=>simp at h
 |cons b t ih=>
  rw[List.takeWhile_cons] at h;split at h
  · rename_i hb
    cases i with
    |zero=>exact⟨b,rfl,hb⟩
    |succ i=>exact ih (by simpa using h)
  · simp at h
theorem zuj {l:List UInt8}{b:UInt8}(h:l[nB l]? =some b):z0z b=false:=by
 unfold nB at h
 induction l with
 |nil=>simp at h
 |cons c t ih=>
  rw[List.takeWhile_cons] at h;split at h
  · exact ih (by simpa using h)
  · rename_i hc;simp at h;subst h;simpa using hc
theorem zwf (b:UInt8)(t:List UInt8):nB (b::t)=if z0z b=true then nB t+1 else 0:=by unfold nB;rw[List.takeWhile_cons];split<;>simp
theorem zgl {b:UInt8}(h:z0z b=true):isL b=false∧b≠58:=by unfold z0z at h;simp only[Bool.or_eq_true,beq_iff_eq] at h;rcases h with ((h|h)|h)|h<;>subst h<;>decide
theorem z4o {l:List UInt8}{i:Nat}{b:UInt8}(h:l[i]? =some b):i<l.length:=(List.getElem?_eq_some_iff.1 h).1
theorem z9k {l:List UInt8}(h:z0o l=true){b:UInt8}(hb:b∈l):isL b=true:=by obtain⟨i,hi,he⟩:=List.getElem_of_mem hb;obtain⟨h1,h2⟩:=(z9j l).1 h;obtain⟨c,hc,hL⟩:=zan l i (by omega);rw[List.getElem?_eq_getElem hi,he] at hc;cases hc;exact hL
theorem zm0 {l:List UInt8}{b:UInt8}(hb:b∈l)(hL:isL b=false)(h58:b≠58):z0l l=none:=by
 refine z85 (fun hp=> ?_) (fun i hi h1 h2=> ?_)
 · rw[z9k hp hb] at hL;cases hL
 · rw[zeb hi] at hb;rcases List.mem_append.1 hb with h|h
   · rw[z9k h1 h] at hL;cases hL
   · rcases List.mem_cons.1 h with h|h
     · exact h58 h
     · rw[z9k h2 h] at hL;cases hL
theorem z8x {l:List UInt8}(h:0<z03 l):∃r,z0l (l.take (z03 l))=some r:=by
 refine(z3u (z1c l)).2 ⟨h, ?_⟩;have hd:z03 l=if lenN (l.take 64)=0∨(l.take 64)[lenN (l.take 64)]? ≠some 58∨lenN ((l.take 64).drop (lenN (l.take 64)+1))=0 then lenN (l.take 64) else lenN (l.take 64)+1+lenN ((l.take 64).drop (lenN (l.take 64)+1)):=rfl;by_cases hc:lenN (l.take 64)=0∨(l.take 64)[lenN (l.take 64)]? ≠some 58∨lenN ((l.take 64).drop (lenN (l.take 64)+1))=0
 · rw[if_pos hc] at hd;exact .inl (by omega)
 · rw[if_neg hc] at hd;have hc1:lenN (l.take 64)≠0:=fun e=>hc (.inl e);have hc2:(l.take 64)[lenN (l.take 64)]? =some 58:=Classical.byContradiction fun e=>hc (.inr (.inl e));have hc3:lenN ((l.take 64).drop (lenN (l.take 64)+1))≠0:=fun e=>hc (.inr (.inr e));exact .inr ⟨by omega,hc2,by omega,by omega⟩
theorem attrP_iff {l:List UInt8}{a:RawA}{k:Nat}:z1p l=some (a,k)↔∃q r,0<z03 l∧l[z03 l+nB (l.drop (z03 l))]? =some 61∧l.drop (z2x l)=q::r∧(q=34∨q=39)∧q∈r∧
 (60:UInt8) ∉ r.takeWhile (· !=q)∧a=⟨l.take (z03 l),r.takeWhile (· !=q),z2x l+1⟩∧k=z2x l+1+(r.takeWhile (· !=q)).length+1:=by
 unfold z1p;constructor
 · intro h;split at h
   · cases h
   · rename_i h1;split at h
     · cases h
     · rename_i q r hd;split at h
       · rename_i hc;simp only[Option.some.injEq,Prod.mk.injEq] at h;refine⟨q,r, ?_,Classical.byContradiction fun e=>h1 (.inr e),hd,hc.1,hc.2.1,hc.2.2,h.1.symm,h.2.symm⟩;rcases Nat.eq_zero_or_pos (z03 l) with h0|h0
         · exact absurd (.inl h0) h1
         · exact h0
       · cases h
 · rintro⟨q,r,h1,h2,h3,h4,h5,h6,rfl,rfl⟩;rw[if_neg (by rintro(h|h);omega;exact h h2),h3];simp only;rw[if_pos ⟨h4,h5,h6⟩]
theorem z86 :∀(f f':Nat) (l:List UInt8) (at_:Nat) (acc:List RawA),l.length<f→l.length<f'→z6y f l at_ acc=z6y f' l at_ acc
 |0,_,_,_,_,h,_=>by omega
 |_+1,0,_,_,_,_,h=>by omega
 |f+1,f'+1,l,at_,acc,h,h'=>by
  rw[z6y,z6y];split
  · rfl
  · split
    · rfl
    · split
      · rfl
      · cases ha:z1p (l.drop (nB l)) with
        |none=>rfl
        |some x=>obtain⟨a,k⟩:=x;have:=z5o ha;rw[List.length_drop] at this;exact z86 f f' _ _ _ (by rw[List.length_drop];omega) (by rw[List.length_drop];omega)
def z3v (l:List UInt8)(at_:Nat)(acc:List RawA):Option (Nat×List RawA×Nat):=z6y (l.length+1) l at_ acc
theorem z2u (l:List UInt8)(at_:Nat)(acc:List RawA):z3v l at_ acc=
 if l[nB l]? =some 62 then some (1,acc,at_+nB l+1)
 else if l[nB l]? =some 47∧l[nB l+1]? =some 62 then some (3,acc,at_+nB l+2)
 else if nB l=0∨l.length≤nB l then none
 else match z1p (l.drop (nB l)) with
  |none=>none
  |some (a,k)=>z3v (l.drop (nB l+k)) (at_+nB l+k) (acc++[⟨a.name,a.value,at_+nB l+a.off⟩]):=by
 unfold z3v;rw[z6y];split
 · rfl
 · split
   · rfl
   · split
     · rfl
     · cases ha:z1p (l.drop (nB l)) with
       |none=>rfl
       |some x=>obtain⟨a,k⟩:=x;have:=z5o ha;rw[List.length_drop] at this;exact z86 _ _ _ _ _ (by rw[List.length_drop];omega) (by rw[List.length_drop];omega)
theorem z9l (l:List UInt8):tagP l=
 if l[1]? =some 47 then
  (if z03 (l.drop 2)=0∨l[2+z03 (l.drop 2)+nB (l.drop (2+z03 (l.drop 2)))]? ≠some 62 then none
   else some (2,(l.drop 2).take (z03 (l.drop 2)),[],2+z03 (l.drop 2)+nB (l.drop (2+z03 (l.drop 2)))+1))
 else if z03 (l.drop 1)=0 then none
 else match z3v (l.drop (1+z03 (l.drop 1))) (1+z03 (l.drop 1)) [] with
  |none=>none
  |some (kind,ats,k)=>some (kind,(l.drop 1).take (z03 (l.drop 1)),ats,k):=by
 unfold tagP;split
 · rfl
 · split
   · rfl
   · rename_i h1 h2;unfold z3v;have hbl:=z1c (l.drop 1);rw[List.length_drop] at hbl;rw[z86 l.length ((l.drop (1+z03 (l.drop 1))).length+1) _ _ _ (by rw[List.length_drop];omega) (by omega)];cases z6y ((l.drop (1+z03 (l.drop 1))).length+1) (l.drop (1+z03 (l.drop 1))) (1+z03 (l.drop 1)) []<;>rfl
theorem zgm :∀(n:Nat) (l:List UInt8) (at_:Nat) (acc:List RawA) (kind:Nat) (ats:List RawA) (k:Nat),l.length≤n→z3v l at_ acc=some (kind,ats,k)→
 (kind=1∨kind=3)∧at_<k∧k≤at_+l.length∧(∃c,l[0]? =some c∧isL c=false∧c≠58)∧(∃more,ats=acc++more∧(∀a∈more,at_<a.off∧a.off+a.value.length≤k)):=by
 intro n
 induction n with
 |zero=>intro l at_ acc kind ats k h0 h;have:l=[]:=List.eq_nil_of_length_eq_zero (by omega);subst this;rw[z2u] at h;simp[nB] at h
 |succ n ih=>
  intro l at_ acc kind ats k hn h
  have hfirst:∀c,l[nB l]? =some c→isL c=false∧c≠58→∃c,l[0]? =some c∧isL c=false∧c≠58:=fun c hc hcc=>by
   rcases Nat.eq_zero_or_pos (nB l) with h0|h0
   · rw[h0] at hc;exact⟨c,hc,hcc⟩
   · obtain⟨b,hb,hB⟩:=zpl h0;exact⟨b,hb,zgl hB⟩
  rw[z2u] at h;split at h
  · rename_i h1;have:=z4o h1;simp only[Option.some.injEq,Prod.mk.injEq] at h;obtain⟨rfl,rfl,rfl⟩:=h;exact⟨.inl rfl,by omega,by omega,hfirst _ h1 (by decide),[],by simp,by simp⟩
  · split at h
    · rename_i h1;have:=z4o h1.2;simp only[Option.some.injEq,Prod.mk.injEq] at h;obtain⟨rfl,rfl,rfl⟩:=h;exact⟨.inr rfl,by omega,by omega,hfirst _ h1.1 (by decide),[],by simp,by simp⟩
    · split at h
      · cases h
      · rename_i h1
        have hp:0<nB l:=by
         rcases Nat.eq_zero_or_pos (nB l) with h0|h0
         · exact absurd (.inl h0) h1
         · exact h0
        have hlt:nB l<l.length:=by
         rcases Nat.lt_or_ge (nB l) l.length with h0|h0
         · exact h0
         · exact absurd (.inr h0) h1
        obtain⟨b,hb,hB⟩:=zpl hp
        cases ha:z1p (l.drop (nB l)) with
        |none=>rw[ha] at h;cases h
        |some x=>
         obtain⟨a,j⟩:=x;rw[ha] at h;simp only at h;have hlen:=z5o ha;rw[List.length_drop] at hlen;obtain⟨q,r,_,_,h3,_,h5,_,ha7,hk8⟩:=attrP_iff.1 ha;have hr:=z65 h5;have h3l:=congrArg List.length h3;rw[List.length_drop,List.length_drop,List.length_cons] at h3l;obtain⟨g1,g2,g3,_,more,g5,g6⟩:=ih _ _ _ _ _ _ (by rw[List.length_drop];omega) h;rw[List.length_drop] at g3;refine⟨g1,by omega,by omega,⟨b,hb,zgl hB⟩,_::more,by rw[g5,List.append_assoc];rfl, ?_⟩;intro x hx;rcases List.mem_cons.1 hx with rfl|hx
         · simp only;rw[ha7];simp only;omega
         · have:=g6 x hx;omega
theorem z4g {l:List UInt8}{kind:Nat}{name:List UInt8}{ats:List RawA}{k:Nat}(h:tagP l=some (kind,name,ats,k)):
 (1≤kind∧kind≤3)∧name≠[]∧2≤k∧k≤l.length∧(0<ats.length→kind≠2)∧(∀a∈ats,a.off+a.value.length≤k)∧(∃c,l[1]? =some c∧(c=47∨isF c=true)):=by
 rw[z9l] at h;split at h
 · rename_i h47;split at h
   · cases h
   · rename_i hc;have h62:l[2+z03 (l.drop 2)+nB (l.drop (2+z03 (l.drop 2)))]? =some 62:=Classical.byContradiction fun e=>hc (.inr e)
     have h0:0<z03 (l.drop 2):=by
      rcases Nat.eq_zero_or_pos (z03 (l.drop 2)) with h0|h0
      · exact absurd (.inl h0) hc
      · exact h0
     have:=z4o h62;simp only[Option.some.injEq,Prod.mk.injEq] at h;obtain⟨rfl,rfl,rfl,rfl⟩:=h;refine⟨by omega, ?_,by omega,by omega,by simp,by simp,47,h47,.inl rfl⟩;intro e;have:=congrArg List.length e;rw[List.length_take,List.length_drop,List.length_nil] at this;omega
 · split at h
   · cases h
   · rename_i h1 h2;have hbl:=z1c (l.drop 1);rw[List.length_drop] at hbl
     cases ha:z3v (l.drop (1+z03 (l.drop 1))) (1+z03 (l.drop 1)) [] with
     |none=>rw[ha] at h;cases h
     |some x=>
      obtain⟨kd,as',j⟩:=x;rw[ha] at h;simp only[Option.some.injEq,Prod.mk.injEq] at h;obtain⟨rfl,rfl,rfl,rfl⟩:=h;obtain⟨g1,g2,g3,g4,more,g5,g6⟩:=zgm _ _ _ _ _ _ _ (Nat.le_refl _) ha;rw[List.length_drop] at g3;refine⟨by omega, ?_,by omega,by omega,fun _=>by omega, ?_, ?_⟩
      · intro e;have:=congrArg List.length e;rw[List.length_take,List.length_drop,List.length_nil] at this;omega
      · intro a hx;rw[g5] at hx;exact(g6 a (by simpa using hx)).2
      · have h0:0<z03 (l.drop 1):=by omega
        obtain⟨r,hr⟩:=z8x h0
        cases hd:l.drop 1 with
        |nil=>rw[hd] at h0;exact absurd h0 (by decide)
        |cons c t=>
         refine⟨c,by
          have:(l.drop 1)[0]? =some c:=by rw[hd];rfl
          rwa [List.getElem?_drop] at this,.inr ?_⟩
         have h9:=((z3u (z1c (l.drop 1))).1 ⟨r,hr⟩).2;have hpos:0<lenN ((l.drop 1).take 64):=by rcases h9 with h9|h9<;>omega
         rw[hd,List.take_succ_cons,z2n] at hpos;split at hpos
         · assumption
         · omega
theorem z2y {t l:List UInt8}(h:t.isPrefixOf l=true):t.length≤l.length:=(List.isPrefixOf_iff_prefix.1 h).length_le
theorem z6z {t:List UInt8}:∀{l:List UInt8} {i:Nat},z2t t l=some i→i+t.length≤l.length
 |[],i,h=>by simp[z2t] at h
 |b::l,i,h=>by
  rw[z2t] at h;split at h
  · rename_i hp;cases h;have:=z2y hp;omega
  · cases hf:z2t t l with
    |none=>rw[hf] at h;cases h
    |some j=>rw[hf] at h;simp only[Option.map_some,Option.some.injEq] at h;have:=z6z hf;simp only[List.length_cons];omega
theorem zbw {t:List UInt8}(ht:t≠[]):∀l:List UInt8,index l t=match z2t t l with|some i=>(i:Int)|none=> -1
 |[]=>by
  cases t with
  |nil=>exact absurd rfl ht
  |cons=>rfl
 |b::l=>by
  rw[index,z2t,zbw ht l];split
  · rfl
  · cases z2t t l with
    |none=>rfl
    |some i=>simp only[Option.map_some];rw[if_neg (by simp only[beq_iff_eq];omega)];exact(Int.natCast_add i 1).symm
theorem z3n (l:List UInt8):z0c l≤l.length:=by
 unfold z0c;split
 · rename_i h;have:=z2y h
   cases hf:z2t [45,45,62] (l.drop 4) with
   |none=>exact Nat.zero_le _
   |some i=>have h1:=z6z hf;rw[List.length_drop] at h1;simp only[List.length_cons,List.length_nil] at h1 this⊢;omega
 · split
   · rename_i h;have:=z2y h
     cases hf:z2t [63,62] (l.drop 2) with
     |none=>exact Nat.zero_le _
     |some i=>have h1:=z6z hf;rw[List.length_drop] at h1;simp only[List.length_cons,List.length_nil] at h1 this⊢;omega
   · exact Nat.zero_le _
theorem zgn {l:List UInt8}(h:0<z0c l):l.head? =some 60:=by
 unfold z0c at h;split at h
 · rename_i h1
   cases l with
   |nil=>simp at h1
   |cons b l=>simp only[List.isPrefixOf,Bool.and_eq_true,beq_iff_eq] at h1;rw[←h1.1];rfl
 · split at h
   · rename_i h1
     cases l with
     |nil=>simp at h1
     |cons b l=>simp only[List.isPrefixOf,Bool.and_eq_true,beq_iff_eq] at h1;rw[←h1.1];rfl
   · omega
theorem pre4 {l:List UInt8}(h:[60,33,45,45].isPrefixOf l=true):l[1]? =some 33:=by obtain⟨r,rfl⟩:=List.isPrefixOf_iff_prefix.1 h;rfl
theorem pre2 {l:List UInt8}(h:[60,63].isPrefixOf l=true):l[1]? =some 63:=by obtain⟨r,rfl⟩:=List.isPrefixOf_iff_prefix.1 h;rfl
end Go.Proofs.YtnlacmnoocigiaaGreatDoor
