/- Names in plain Lean: plain names, prefix and local part, the longest name with which a text begins. -/
import Derived.Test.YtnlacmnoocigiaaGreatDoorBaseSt
import Derived.Test.YtnlacmnoocigiaaGreatDoorEntAll
namespace Go.Proofs.YtnlacmnoocigiaaGreatDoor
def isF (b:UInt8):Bool:=(decide (65≤b.toNat) && decide (b.toNat≤90))||(decide (97≤b.toNat) && decide (b.toNat≤122))||decide (b.toNat=95)
def isL (b:UInt8):Bool:=isF b||(decide (48≤b.toNat) && decide (b.toNat≤57))||decide (b.toNat=45)||decide (b.toNat=46)
theorem z9i {b:UInt8}(h:isF b=true):isL b=true:=by unfold isL;rw[h];rfl
theorem zdd :isL 58=false:=by decide
def lenN :List UInt8→Nat
 |[]=>0
 |b::t=>if isF b=true then 1+(t.takeWhile isL).length else 0
theorem z2n (b:UInt8)(t:List UInt8):lenN (b::t)=if isF b=true then 1+(t.takeWhile isL).length else 0:=rfl
theorem z14 (p:UInt8→Bool):∀l:List UInt8,(l.takeWhile p).length≤l.length
 |[]=>Nat.le_refl _
 |b::t=>by
  rw[List.takeWhile_cons];split
  · have:=z14 p t;simp only[List.length_cons];omega
  · exact Nat.zero_le _
theorem z5c (l:List UInt8):lenN l≤l.length:=by
 cases l with
 |nil=>exact Nat.le_refl _
 |cons b t=>
  rw[z2n];split
  · have:=z14 isL t;simp only[List.length_cons];omega
  · exact Nat.zero_le _
theorem z7q (p:UInt8→Bool):∀(l:List UInt8) (n:Nat),((l.take n).takeWhile p).length=min n (l.takeWhile p).length
 |[],n=>by simp
 |b::t,0=>by simp
 |b::t,n+1=>by
  rw[List.take_succ_cons,List.takeWhile_cons,List.takeWhile_cons];split
  · have:=z7q p t n;simp only[List.length_cons];omega
  · simp
theorem zpi (l:List UInt8)(n:Nat):lenN (l.take n)=min n (lenN l):=by
 cases l with
 |nil=>simp[lenN]
 |cons b t=>
  cases n with
  |zero=>simp[lenN]
  |succ n=>
   rw[List.take_succ_cons,z2n,z2n];split
   · have:=z7q isL t n;omega
   · simp
theorem zan :∀(l:List UInt8) (i:Nat),i<lenN l→∃b,l[i]? =some b∧isL b=true:=by
 intro l i h
 cases l with
 |nil=>simp[lenN] at h
 |cons b t=>
  rw[z2n] at h;split at h
  · rename_i hf
    cases i with
    |zero=>exact⟨b,rfl,z9i hf⟩
    |succ i=>
     rw[List.getElem?_cons_succ];have hi:i<(t.takeWhile isL).length:=by omega
     clear h hf b
     induction t generalizing i with
     |nil=>simp at hi
     |cons c t ih=>
      rw[List.takeWhile_cons] at hi;split at hi
      · rename_i hc
        cases i with
        |zero=>exact⟨c,rfl,hc⟩
        |succ i=>exact ih i (by simpa using hi)
      · simp at hi
  · omega
theorem ztd :∀(l:List UInt8) (b:UInt8),0<lenN l→l[lenN l]? =some b→isL b=false:=by
 intro l b h hb
 cases l with
 |nil=>simp[lenN] at h
 |cons c t=>
  rw[z2n] at h hb;split at h
  · rename_i hf;rw[if_pos hf,Nat.add_comm,List.getElem?_cons_succ] at hb;clear h hf c
    induction t with
    |nil=>simp at hb
    |cons c t ih=>
     rw[List.takeWhile_cons] at hb;split at hb
     · exact ih (by simpa using hb)
     · rename_i hc;simp at hb;subst hb;simpa using hc
  · omega
def z0o (l:List UInt8):Bool:=decide (lenN l≠0) && decide (lenN l=l.length)
theorem z9j (l:List UInt8):z0o l=true↔0<lenN l∧lenN l=l.length:=by unfold z0o;simp only[Bool.and_eq_true,decide_eq_true_eq];omega
theorem z3m {l:List UInt8}{n:Nat}(hn:n≤l.length):z0o (l.take n)=true↔0<n∧n≤lenN l:=by rw[z9j,zpi,List.length_take];omega
theorem zgk {l:List UInt8}(h:z0o l=true):(58:UInt8) ∉ l:=by intro hm;obtain⟨i,hi,he⟩:=List.getElem_of_mem hm;obtain⟨h1,h2⟩:=(z9j l).1 h;obtain⟨b,hb,hL⟩:=zan l i (by omega);rw[List.getElem?_eq_getElem hi,he] at hb;cases hb;rw[zdd] at hL;cases hL
def z0l (l:List UInt8):Option (List UInt8×List UInt8):=
 if 64<l.length then none
 else if(58:UInt8)∈l then
  (if z0o (l.takeWhile (· !=58))=true∧z0o (l.drop ((l.takeWhile (· !=58)).length+1))=true then some (l.takeWhile (· !=58),l.drop ((l.takeWhile (· !=58)).length+1)) else none)
 else if z0o l=true then some ([],l) else none
theorem zbu :∀{l:List UInt8} {i:Nat},l[i]? =some 58→(∀b∈l.take i,b≠58)→l.takeWhile (· !=58)=l.take i
 |[],i,h,_=>by simp at h
 |b::t,0,h,_=>by simp at h;subst h;simp
 |b::t,i+1,h,ha=>by rw[List.take_succ_cons] at ha⊢;rw[List.takeWhile_cons];have hb:b≠58:=ha b (by simp);rw[if_pos (by simpa using hb),zbu (by simpa using h) (fun c hc=>ha c (by simp[hc]))]
theorem zkc :∀{l:List UInt8},(58:UInt8)∈l→l[(l.takeWhile (· !=58)).length]? =some 58∧l.take (l.takeWhile (· !=58)).length=l.takeWhile (· !=58)
 |[],h=>by cases h
 |b::t,h=>by
  by_cases hb:b=58
  · subst hb;simp
  · have h':(58:UInt8)∈t:=by
     rcases List.mem_cons.1 h with h|h
     · exact absurd h.symm hb
     · exact h
    obtain⟨h1,h2⟩:=zkc h';rw[List.takeWhile_cons,if_pos (by simpa using hb)];simp only[List.length_cons,List.getElem?_cons_succ,List.take_succ_cons];exact⟨h1,by rw[h2]⟩
theorem za5 {l:List UInt8}(hl:l.length≤64){i:Nat}(hi:l[i]? =some 58)(h1:z0o (l.take i)=true)(h2:z0o (l.drop (i+1))=true):z0l l=some (l.take i,l.drop (i+1)):=by
 have hm:(58:UInt8)∈l:=List.mem_of_getElem? hi;have ht:=zbu hi (fun b hb e=>by subst e;exact zgk h1 hb);have hlen:(l.take i).length=i:=by rw[List.length_take];have:=(List.getElem?_eq_some_iff.1 hi).1;omega
 unfold z0l;rw[if_neg (by omega),if_pos hm,ht,hlen,if_pos ⟨h1,h2⟩]
theorem z85 {l:List UInt8}(hp:z0o l≠true)(hc:∀i,l[i]? =some 58→z0o (l.take i)=true→z0o (l.drop (i+1))≠true):z0l l=none:=by
 unfold z0l;split
 · rfl
 · split
   · rename_i hm;obtain⟨h1,h2⟩:=zkc hm;rw[if_neg];rintro⟨g1,g2⟩;exact hc _ h1 (by rw[h2];exact g1) g2
   · first|rw[if_neg hp]|(split<;>first|rfl|contradiction)|rfl
theorem za6 {l:List UInt8}(hl:l.length≤64)(hp:z0o l=true):z0l l=some ([],l):=by unfold z0l;rw[if_neg (by omega),if_neg (zgk hp),if_pos hp]
def z03 (l:List UInt8):Nat:=
 let s:=l.take 64
 if lenN s=0∨s[lenN s]? ≠some 58∨lenN (s.drop (lenN s+1))=0 then lenN s else lenN s+1+lenN (s.drop (lenN s+1))
theorem z1c (l:List UInt8):z03 l≤min l.length 64:=by
 unfold z03;simp only;have h1:=z5c (l.take 64);rw[List.length_take] at h1;split
 · omega
 · rename_i h;have h2:=z5c ((l.take 64).drop (lenN (l.take 64)+1));rw[List.length_drop,List.length_take] at h2
   have h3:0<lenN ((l.take 64).drop (lenN (l.take 64)+1)):=by
    rcases Nat.eq_zero_or_pos (lenN ((l.take 64).drop (lenN (l.take 64)+1))) with h4|h4
    · exact absurd (.inr (.inr h4)) h
    · exact h4
   omega
theorem z3u {l:List UInt8}{n:Nat}(hn:n≤min l.length 64):(∃r,z0l (l.take n)=some r)↔
 0<n∧(n≤lenN (l.take 64)∨(0<lenN (l.take 64)∧(l.take 64)[lenN (l.take 64)]? =some 58∧lenN (l.take 64)+1<n∧n≤lenN (l.take 64)+1+lenN ((l.take 64).drop (lenN (l.take 64)+1)))):=by
 obtain⟨s,hs⟩:∃s,l.take 64=s:=⟨_,rfl⟩;have hsl:s.length=min l.length 64:=by rw[←hs,List.length_take];omega
 have ht:l.take n=s.take n:=by rw[←hs,List.take_take];congr 1;omega
 rw[ht,hs];have hns:n≤s.length:=by omega
 have hl64:(s.take n).length≤64:=by rw[List.length_take];omega
 constructor
 · rintro⟨r,hr⟩;by_cases hp:z0o (s.take n)=true
   · obtain⟨h1,h2⟩:=(z3m hns).1 hp;exact⟨h1,.inl h2⟩
   · by_cases hc:∃i,(s.take n)[i]? =some 58∧z0o ((s.take n).take i)=true∧z0o ((s.take n).drop (i+1))=true
     · obtain⟨i,hi,g1,g2⟩:=hc;have hin:i<n:=by have:=(List.getElem?_eq_some_iff.1 hi).1;rw[List.length_take] at this;omega
       have hsi:s[i]? =some 58:=by rw[List.getElem?_take] at hi;simpa [hin] using hi
       rw[List.take_take,show min i n=i by omega] at g1;obtain⟨e1,e2⟩:=(z3m (by omega)).1 g1
       have hk:lenN s=i:=by
        rcases Nat.lt_or_ge i (lenN s) with h|h
        · obtain⟨b,hb,hL⟩:=zan s i h;rw[hsi] at hb;cases hb;rw[zdd] at hL;cases hL
        · omega
       rw[List.drop_take] at g2;have hdl:n - (i+1)≤(s.drop (i+1)).length:=by rw[List.length_drop];omega
       obtain⟨f1,f2⟩:=(z3m hdl).1 g2;rw[hk];exact⟨by omega,.inr ⟨by omega,hsi,by omega,by omega⟩⟩
     · rw[z85 hp (fun i h1 h2 h3=>hc ⟨i,h1,h2,h3⟩)] at hr;cases hr
 · rintro⟨h0,h1|⟨h1,h2,h3,h4⟩⟩
   · exact⟨_,za6 hl64 ((z3m hns).2 ⟨h0,h1⟩)⟩
   · refine⟨_,za5 (i:=lenN s) hl64 ?_ ?_ ?_⟩
     · rw[List.getElem?_take,if_pos (by omega)];exact h2
     · rw[List.take_take,show min (lenN s) n=lenN s by omega];exact(z3m (z5c s)).2 ⟨h1,Nat.le_refl _⟩
     · rw[List.drop_take];exact(z3m (by rw[List.length_drop];omega)).2 ⟨by omega,by omega⟩
theorem zpj {l:List UInt8}{n:Nat}(hn:n≤min l.length 64)(h0:0<n)(hok:∃r,z0l (l.take n)=some r)(hno:∀m,n<m→m≤min l.length 64→z0l (l.take m)=none):n=z03 l:=by
 have hb:=z1c l;have h1:=(z3u hn).1 hok;have hmax:∀m,n<m→m≤min l.length 64→¬(0<m∧(m≤lenN (l.take 64)∨(0<lenN (l.take 64)∧(l.take 64)[lenN (l.take 64)]? =some 58∧lenN (l.take 64)+1<m∧m≤lenN (l.take 64)+1+lenN ((l.take 64).drop (lenN (l.take 64)+1))))):=fun m h2 h3 h4=>by obtain⟨r,hr⟩:=(z3u h3).2 h4;rw[hno m h2 h3] at hr;cases hr
 have h5:=hmax (z03 l);have hk:=z5c (l.take 64);rw[List.length_take] at hk;have hd:z03 l=if lenN (l.take 64)=0∨(l.take 64)[lenN (l.take 64)]? ≠some 58∨lenN ((l.take 64).drop (lenN (l.take 64)+1))=0 then lenN (l.take 64) else lenN (l.take 64)+1+lenN ((l.take 64).drop (lenN (l.take 64)+1)):=rfl;by_cases hc:lenN (l.take 64)=0∨(l.take 64)[lenN (l.take 64)]? ≠some 58∨lenN ((l.take 64).drop (lenN (l.take 64)+1))=0
 · rw[if_pos hc] at hd;rw[hd] at h5 hb⊢;rcases h1.2 with h|⟨a,b,c,d⟩
   · rcases Nat.lt_or_ge n (lenN (l.take 64)) with h6|h6
     · exact absurd ⟨by omega,.inl (Nat.le_refl _)⟩ (h5 h6 (by omega))
     · omega
   · rcases hc with hc|hc|hc
     · omega
     · exact absurd b hc
     · omega
 · rw[if_neg hc] at hd;rw[hd] at h5 hb⊢;have hc1:lenN (l.take 64)≠0:=fun e=>hc (.inl e);have hc2:(l.take 64)[lenN (l.take 64)]? =some 58:=Classical.byContradiction fun e=>hc (.inr (.inl e));have hc3:lenN ((l.take 64).drop (lenN (l.take 64)+1))≠0:=fun e=>hc (.inr (.inr e));rcases Nat.lt_or_ge n (lenN (l.take 64)+1+lenN ((l.take 64).drop (lenN (l.take 64)+1))) with h6|h6
   · exact absurd ⟨by omega,.inr ⟨by omega,hc2,by omega,Nat.le_refl _⟩⟩ (h5 h6 hb)
   · rcases h1.2 with h|⟨a,b,c,d⟩<;>omega
theorem zbv {l:List UInt8}(hno:∀m,0<m→m≤min l.length 64→z0l (l.take m)=none):z03 l=0:=by
 rcases Nat.eq_zero_or_pos (z03 l) with h|h
 · exact h
 · exfalso;have hb:=z1c l
   have hk:lenN (l.take 64)=0:=by
    rcases Nat.eq_zero_or_pos (lenN (l.take 64)) with h1|h1
    · exact h1
    · have hle:=z5c (l.take 64);rw[List.length_take] at hle;obtain⟨r,hr⟩:=(z3u (l:=l) (n:=lenN (l.take 64)) (by omega)).2 ⟨h1,.inl (Nat.le_refl _)⟩;rw[hno _ h1 (by omega)] at hr;cases hr
   unfold z03 at h;simp only at h;rw[if_pos (.inl hk)] at h;omega
end Go.Proofs.YtnlacmnoocigiaaGreatDoor
namespace Go.Proofs.YtnlacmnoocigiaaGreatDoor
def z0z (b:UInt8):Bool:=b==32||b==9||b==10||b==13
def nB (l:List UInt8):Nat:=(l.takeWhile z0z).length
theorem zil (l:List UInt8):nB l≤l.length:=z14 _ _
theorem zpk :∀l:List UInt8,l.drop (nB l)=l.dropWhile z0z
 |[]=>rfl
 |b::t=>by
  unfold nB;rw[List.takeWhile_cons,List.dropWhile_cons];split
  · rw[List.length_cons,List.drop_succ_cons];exact zpk t
  · rfl
structure RawA where
 name:List UInt8
 value:List UInt8
 off:Nat
def z2x (l:List UInt8):Nat:=z03 l+nB (l.drop (z03 l))+1+nB (l.drop (z03 l+nB (l.drop (z03 l))+1))
def z1p (l:List UInt8):Option (RawA×Nat):=
 if z03 l=0∨l[z03 l+nB (l.drop (z03 l))]? ≠some 61 then none
 else match l.drop (z2x l) with
  |[]=>none
  |q::r=>
   if(q=34∨q=39)∧q∈r∧(60:UInt8) ∉ r.takeWhile (· !=q) then
    some (⟨l.take (z03 l),r.takeWhile (· !=q),z2x l+1⟩,z2x l+1+(r.takeWhile (· !=q)).length+1)
   else none
theorem z5o {l:List UInt8}{a:RawA}{k:Nat}(h:z1p l=some (a,k)):0<k∧k≤l.length:=by
 unfold z1p at h;split at h
 · cases h
 · split at h
   · cases h
   · rename_i q r hd;split at h
     · rename_i hc;simp only[Option.some.injEq,Prod.mk.injEq] at h;obtain⟨-,rfl⟩:=h;refine⟨by omega, ?_⟩;have h1:(l.drop (z2x l)).length=r.length+1:=by rw[hd];rfl
       rw[List.length_drop] at h1
       have h2:(r.takeWhile (· !=q)).length<r.length:=by
        have:∀r:List UInt8,q∈r→(r.takeWhile (· !=q)).length<r.length:=by
         intro r
         induction r with
         |nil=>intro h;cases h
         |cons b t ih=>
          intro hm;rw[List.takeWhile_cons];split
          · rename_i hb;have hb:b≠q:=by simpa using hb
            have:=ih (by
             rcases List.mem_cons.1 hm with h|h
             · exact absurd h.symm hb
             · exact h)
            simp only[List.length_cons];omega
          · simp
        exact this r hc.2.1
       omega
     · cases h
def z6y :Nat→List UInt8→Nat→List RawA→Option (Nat×List RawA×Nat)
 |0,_,_,_=>none
 |f+1,l,at_,acc=>
  if l[nB l]? =some 62 then some (1,acc,at_+nB l+1)
  else if l[nB l]? =some 47∧l[nB l+1]? =some 62 then some (3,acc,at_+nB l+2)
  else if nB l=0∨l.length≤nB l then none
  else match z1p (l.drop (nB l)) with
   |none=>none
   |some (a,k)=>z6y f (l.drop (nB l+k)) (at_+nB l+k) (acc++[⟨a.name,a.value,at_+nB l+a.off⟩])
def tagP (l:List UInt8):Option (Nat×List UInt8×List RawA×Nat):=
 if l[1]? =some 47 then
  (if z03 (l.drop 2)=0∨l[2+z03 (l.drop 2)+nB (l.drop (2+z03 (l.drop 2)))]? ≠some 62 then none
   else some (2,(l.drop 2).take (z03 (l.drop 2)),[],2+z03 (l.drop 2)+nB (l.drop (2+z03 (l.drop 2)))+1))
 else if z03 (l.drop 1)=0 then none
 else match z6y l.length (l.drop (1+z03 (l.drop 1))) (1+z03 (l.drop 1)) [] with
  |none=>none
  |some (kind,ats,k)=>some (kind,(l.drop 1).take (z03 (l.drop 1)),ats,k)
def z2t (t:List UInt8):List UInt8→Option Nat
 |[]=>none
 |b::l=>if t.isPrefixOf (b::l)=true then some 0 else(z2t t l).map (· +1)
def z0c (l:List UInt8):Nat:=
 if [60,33,45,45].isPrefixOf l=true then(match z2t [45,45,62] (l.drop 4) with|some i=>4+i+3|none=>0)
 else if [60,63].isPrefixOf l=true then(match z2t [63,62] (l.drop 2) with|some i=>2+i+2|none=>0)
 else 0
structure Tok where
 kind:Nat
 name:List UInt8
 attrs:List (List UInt8×List UInt8)
 text:List UInt8
 at_:Nat
def z26 :List RawA→List (List UInt8×List UInt8) ⊕ (Nat×Int)
 |[]=>.inl []
 |a::l=>if(z04 a.value).2.2≠0 then .inr (a.off+(z04 a.value).2.1,(z04 a.value).2.2)
  else match z26 l with
   |.inr x=>.inr x
   |.inl r=>.inl ((a.name,(z04 a.value).1)::r)
def z4n :Nat→List UInt8→Nat→List Tok→List Tok×Nat×Int
 |0,_,_,acc=>(acc,0,0)
 |f+1,l,at_,acc=>
  if l=[] then(acc,0,0)
  else if l.head? ≠some 60 then
   let v:=l.takeWhile (· !=60)
   if(z04 v).2.2≠0 then([],at_+(z04 v).2.1,(z04 v).2.2)
   else z4n f (l.drop v.length) (at_+v.length) (acc++[⟨4,[],[],(z04 v).1,at_⟩])
  else if 0<z0c l then z4n f (l.drop (z0c l)) (at_+z0c l) acc
  else match tagP l with
   |none=>([],at_,40)
   |some (kind,name,ats,k)=>match z26 ats with
    |.inr (p,e)=>([],at_+p,e)
    |.inl vs=>if 32<vs.length then([],at_,3) else z4n f (l.drop k) (at_+k) (acc++[⟨kind,name,vs,[],at_⟩])
end Go.Proofs.YtnlacmnoocigiaaGreatDoor
