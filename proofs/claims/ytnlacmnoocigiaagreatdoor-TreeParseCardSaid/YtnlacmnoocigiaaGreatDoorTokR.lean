/- Tokens in plain Lean: of a text that is cut, and another one behind it; tokens stand in order. -/
import Derived.Test.YtnlacmnoocigiaaGreatDoorTokQ
namespace Go.Proofs.YtnlacmnoocigiaaGreatDoor
open Go.Lib
theorem za7 :∀(n:Nat) (l acc:List UInt8) (a:Nat),l.length≤n→(decode l.length l acc a).2.1≤a+l.length
 |0,l,acc,a,hn=>by have:l=[]:=List.eq_nil_of_length_eq_zero (by omega);subst this;exact Nat.zero_le _
 |n+1,l,acc,a,hn=>by
  by_cases h0:l=[]
  · subst h0;exact Nat.zero_le _
  · rw[zbi h0];by_cases he:(z12 l).2.2≠0
    · rw[if_pos he];simp only;omega
    · rw[if_neg he];have he:(z12 l).2.2=0:=by omega
      obtain⟨-,h1,h2, -⟩:=z1u h0 he [];have:=za7 n (l.drop (z12 l).2.1) (acc++(z12 l).1) (a+(z12 l).2.1) (by rw[List.length_drop];omega);have hd:(l.drop (z12 l).2.1).length=l.length - (z12 l).2.1:=List.length_drop;omega
theorem z2g (l:List UInt8):(z04 l).2.1≤l.length:=by have:=za7 l.length l [] 0 (Nat.le_refl _);unfold z04;omega
theorem zao :∀{l:List RawA} {r:List (List UInt8×List UInt8)},z26 l=.inl r→r.length=l.length
 |[],r,h=>by cases h;rfl
 |a::l,r,h=>by
  rw[z26] at h;split at h
  · cases h
  · cases hr:z26 l with
    |inr x=>rw[hr] at h;cases h
    |inl r'=>rw[hr] at h;cases h;simp[zao hr]
theorem zbx :∀{l:List RawA} {p:Nat} {e:Int},z26 l=.inr (p,e)→e≠0∧∃a∈l,p≤a.off+a.value.length
 |[],p,e,h=>by cases h
 |a::l,p,e,h=>by
  rw[z26] at h;split at h
  · rename_i he;simp only[Sum.inr.injEq,Prod.mk.injEq] at h;obtain⟨rfl,rfl⟩:=h;exact⟨he,a,by simp,by have:=z2g a.value;omega⟩
  · cases hr:z26 l with
    |inr x=>rw[hr] at h;cases h;obtain⟨h1,b,hb,h2⟩:=zbx hr;exact⟨h1,b,by simp[hb],h2⟩
    |inl r'=>rw[hr] at h;cases h
theorem z54 {l:List UInt8}(h0:l≠[])(h:l.head? ≠some 60):0<(l.takeWhile (· !=60)).length:=by
 cases l with
 |nil=>exact absurd rfl h0
 |cons b t=>rw[List.takeWhile_cons,if_pos (by simpa using h)];simp
theorem z2z :∀(f f':Nat) (l:List UInt8) (at_:Nat) (acc:List Tok),l.length<f→l.length<f'→z4n f l at_ acc=z4n f' l at_ acc
 |0,_,_,_,_,h,_=>by omega
 |_+1,0,_,_,_,_,h=>by omega
 |f+1,f'+1,l,at_,acc,h,h'=>by
  rw[z4n,z4n];by_cases h0:l=[]
  · rw[if_pos h0,if_pos h0]
  · rw[if_neg h0,if_neg h0];by_cases h1:l.head? ≠some 60
    · rw[if_pos h1,if_pos h1];simp only;split
      · rfl
      · have:=z54 h0 h1;have:=List.length_pos_iff.2 h0;exact z2z f f' _ _ _ (by rw[List.length_drop];omega) (by rw[List.length_drop];omega)
    · rw[if_neg h1,if_neg h1];by_cases h2:0<z0c l
      · rw[if_pos h2,if_pos h2];have:=z3n l;exact z2z f f' _ _ _ (by rw[List.length_drop];omega) (by rw[List.length_drop];omega)
      · rw[if_neg h2,if_neg h2]
        cases ht:tagP l with
        |none=>rfl
        |some x=>
         obtain⟨kind,name,ats,k⟩:=x;simp only
         cases z26 ats with
         |inr y=>rfl
         |inl vs=>
          simp only;split
          · rfl
          · obtain⟨-, -,h3,h4, -⟩:=z4g ht;exact z2z f f' _ _ _ (by rw[List.length_drop];omega) (by rw[List.length_drop];omega)
def tokS (l:List UInt8)(at_:Nat)(acc:List Tok):List Tok×Nat×Int:=z4n (l.length+1) l at_ acc
theorem zap (at_:Nat)(acc:List Tok):tokS [] at_ acc=(acc,0,0):=rfl
theorem z71 {l:List UInt8}(h0:l≠[])(h1:l.head? ≠some 60)(at_:Nat)(acc:List Tok):tokS l at_ acc=
 if(z04 (l.takeWhile (· !=60))).2.2≠0 then([],at_+(z04 (l.takeWhile (· !=60))).2.1,(z04 (l.takeWhile (· !=60))).2.2)
 else tokS (l.drop (l.takeWhile (· !=60)).length) (at_+(l.takeWhile (· !=60)).length) (acc++[⟨4,[],[],(z04 (l.takeWhile (· !=60))).1,at_⟩]):=by
 have:=z54 h0 h1;unfold tokS;rw[z4n,if_neg h0,if_pos h1];simp only;split
 · rfl
 · exact z2z _ _ _ _ _ (by rw[List.length_drop];have:=List.length_pos_iff.2 h0;omega) (by omega)
theorem z4p {l:List UInt8}(h2:0<z0c l)(at_:Nat)(acc:List Tok):tokS l at_ acc=tokS (l.drop (z0c l)) (at_+z0c l) acc:=by
 have h1:=zgn h2;have h0:l≠[]:=fun e=>by subst e;cases h1
 have:=z3n l;unfold tokS;rw[z4n,if_neg h0,if_neg (fun h=>h h1),if_pos h2];exact z2z _ _ _ _ _ (by rw[List.length_drop];omega) (by omega)
def tagR (l:List UInt8):(Nat×List UInt8×List (List UInt8×List UInt8)×Nat) ⊕ (Nat×Int):=match tagP l with
 |none=>.inr (0,40)
 |some (kind,name,ats,k)=>match z26 ats with
  |.inr x=>.inr x
  |.inl vs=>if 32<vs.length then .inr (0,3) else .inl (kind,name,vs,k)
theorem z56 {l:List UInt8}(h1:l.head? =some 60)(h2:z0c l=0)(at_:Nat)(acc:List Tok):tokS l at_ acc=match tagR l with
 |.inr (p,e)=>([],at_+p,e)
 |.inl (kind,name,vs,k)=>tokS (l.drop k) (at_+k) (acc++[⟨kind,name,vs,[],at_⟩]):=by
 have h0:l≠[]:=fun e=>by subst e;cases h1
 unfold tokS tagR;rw[z4n,if_neg h0,if_neg (fun h=>h h1),if_neg (by omega)]
 cases ht:tagP l with
 |none=>rfl
 |some x=>
  obtain⟨kind,name,ats,k⟩:=x;simp only
  cases z26 ats with
  |inr y=>rfl
  |inl vs=>
   simp only;split
   · rfl
   · obtain⟨-, -,h3,h4, -⟩:=z4g ht;exact z2z _ _ _ _ _ (by rw[List.length_drop];omega) (by omega)
theorem z9m {l:List UInt8}{kind:Nat}{name:List UInt8}{vs:List (List UInt8×List UInt8)}{k:Nat}(h:tagR l=.inl (kind,name,vs,k)):
 (1≤kind∧kind≤3)∧name≠[]∧2≤k∧k≤l.length∧(0<vs.length→kind≠2)∧vs.length≤32∧(∃c,l[1]? =some c∧(c=47∨isF c=true)):=by
 unfold tagR at h
 cases ht:tagP l with
 |none=>rw[ht] at h;cases h
 |some x=>
  obtain⟨kd,nm,ats,j⟩:=x;rw[ht] at h;simp only at h
  cases hr:z26 ats with
  |inr y=>rw[hr] at h;cases h
  |inl ws=>
   rw[hr] at h;simp only at h;split at h
   · cases h
   · simp only[Sum.inl.injEq,Prod.mk.injEq] at h;obtain⟨rfl,rfl,rfl,rfl⟩:=h;obtain⟨g1,g2,g3,g4,g5, -,g7⟩:=z4g ht;rw[zao hr];exact⟨g1,g2,g3,g4,g5,by rw[←zao hr];omega,g7⟩
theorem zaq {l:List UInt8}{p:Nat}{e:Int}(h:tagR l=.inr (p,e)):e≠0∧p≤l.length:=by
 unfold tagR at h
 cases ht:tagP l with
 |none=>rw[ht] at h;cases h;exact⟨by decide,Nat.zero_le _⟩
 |some x=>
  obtain⟨kd,nm,ats,j⟩:=x;rw[ht] at h;simp only at h;obtain⟨g1,g2,g3,g4,g5,g6,g7⟩:=z4g ht
  cases hr:z26 ats with
  |inr y=>rw[hr] at h;cases h;obtain⟨h1,a,ha,h2⟩:=zbx hr;exact⟨h1,by have:=g6 a ha;omega⟩
  |inl ws=>
   rw[hr] at h;simp only at h;split at h
   · cases h;exact⟨by decide,Nat.zero_le _⟩
   · cases h
theorem zim {M:List UInt8→Prop}(h0:M [])(h1:∀l,l≠[]→l.head? ≠some 60→M (l.drop (l.takeWhile (· !=60)).length)→M l)
 (h2:∀l,0<z0c l→M (l.drop (z0c l))→M l)
 (h3:∀l p e,l.head? =some 60→z0c l=0→tagR l=.inr (p,e)→M l)
 (h4:∀l kind name vs k,l.head? =some 60→z0c l=0→tagR l=.inl (kind,name,vs,k)→M (l.drop k)→M l):∀l,M l:=by
 have:∀(n:Nat) (l:List UInt8),l.length≤n→M l:=by
  intro n
  induction n with
  |zero=>intro l hl;have:l=[]:=List.eq_nil_of_length_eq_zero (by omega);subst this;exact h0
  |succ n ih=>
   intro l hl;by_cases hn:l=[]
   · subst hn;exact h0
   · by_cases hh:l.head? ≠some 60
     · have:=z54 hn hh;exact h1 l hn hh (ih _ (by rw[List.length_drop];omega))
     · have hh:l.head? =some 60:=Classical.byContradiction hh;rcases Nat.eq_zero_or_pos (z0c l) with hr|hr
       · cases ht:tagR l with
         |inr x=>exact h3 l _ _ hh hr ht
         |inl x=>obtain⟨kind,name,vs,k⟩:=x;obtain⟨-, -,g1,g2, -⟩:=z9m ht;exact h4 l _ _ _ _ hh hr ht (ih _ (by rw[List.length_drop];omega))
       · have:=z3n l;exact h2 l hr (ih _ (by rw[List.length_drop];omega))
 exact fun l=>this l.length l (Nat.le_refl _)
def ordT (s:List UInt8):Nat→List Tok→Prop
 |_,[]=>True
 |lo,t::r=>lo≤t.at_∧t.at_<s.length∧(1≤t.kind∧t.kind≤4)∧(s[t.at_]? =some 60↔t.kind≠4)∧(t.name=[]↔t.kind=4)∧t.attrs.length≤32∧(0<t.attrs.length→t.kind≠2∧t.kind≠4)∧ordT s (t.at_+1) r
theorem zin {s:List UInt8}{lo lo':Nat}(h:lo'≤lo):∀{l:List Tok},ordT s lo l→ordT s lo' l
 |[],_=>trivial
 |t::r,hh=>by rw[ordT] at hh⊢;exact⟨by omega,hh.2⟩
theorem zgo {s:List UInt8}{n:Nat}:(s.drop n).head? =s[n]? :=by rw[List.head?_drop]
theorem zm1 (s:List UInt8):∀(l:List UInt8) (at_:Nat) (acc:List Tok),s.drop at_=l→(tokS l at_ acc).2.2=0→∃more,(tokS l at_ acc).1=acc++more∧ordT s at_ more:=by
 refine zim (fun at_ acc hl h=> ?_) (fun l h0 h1 ih at_ acc hl h=> ?_) (fun l h ih at_ acc hl h=> ?_) (fun l p e h1 h2 h3 at_ acc hl h=> ?_) (fun l kind name vs k h1 h2 h3 ih at_ acc hl h=> ?_)
 · exact⟨[],by simp[zap],trivial⟩
 · have hp:=z54 h0 h1
   have hal:at_<s.length:=by
    rcases Nat.lt_or_ge at_ s.length with h2|h2
    · exact h2
    · exact absurd (by rw[←hl,List.drop_of_length_le h2]) h0
   rw[z71 h0 h1] at h⊢;by_cases he:(z04 (l.takeWhile (· !=60))).2.2≠0
   · rw[if_pos he] at h;exact absurd h he
   · rw[if_neg he] at h⊢;obtain⟨more,g1,g2⟩:=ih _ _ (by rw[←List.drop_drop,hl]) h;refine⟨_::more,by rw[g1,List.append_assoc];rfl, ?_⟩;rw[ordT];exact⟨Nat.le_refl _,hal,by simp,by rw[←zgo,hl];simp[h1],by simp,by simp,by simp,zin (by simp only;omega) g2⟩
 · rename_i hr;rw[z4p hr] at h⊢;obtain⟨more,g1,g2⟩:=ih _ _ (by rw[←List.drop_drop,hl]) h;exact⟨more,g1,zin (by omega) g2⟩
 · rw[z56 h1 h2,h3] at h;exact absurd h (zaq h3).1
 · obtain⟨f1,f2,f3,f4,f5,f6, -⟩:=z9m h3;have h0:l≠[]:=fun e=>by subst e;cases h1
   have hal:at_<s.length:=by
    rcases Nat.lt_or_ge at_ s.length with h2|h2
    · exact h2
    · exact absurd (by rw[←hl,List.drop_of_length_le h2]) h0
   rw[z56 h1 h2,h3] at h⊢;obtain⟨more,g1,g2⟩:=ih _ _ (by rw[←List.drop_drop,hl]) h;refine⟨_::more,by rw[g1,List.append_assoc];rfl, ?_⟩;rw[ordT];refine⟨Nat.le_refl _,hal,by simp only;omega, ?_, ?_,f6,fun hh=>⟨f5 hh,by simp only;omega⟩,zin (by simp only;omega) g2⟩
   · rw[←zgo,hl];exact⟨fun _=>by simp only;omega,fun _=>h1⟩
   · exact⟨fun e=>absurd e f2,fun e=>by simp only at e;omega⟩
def tokR (s:List UInt8):List Tok×Nat×Int:=if 65536<s.length then([],0,3) else if(z0h s).2≠0 then([],(z0h s).1,(z0h s).2) else tokS s 0 []
end Go.Proofs.YtnlacmnoocigiaaGreatDoor
