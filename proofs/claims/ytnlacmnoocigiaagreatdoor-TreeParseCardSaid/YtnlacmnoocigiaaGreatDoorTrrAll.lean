/- the reference's tree, in plain Lean: attributes, put in order one by one. -/
import Derived.Test.YtnlacmnoocigiaaGreatDoorTrePq
namespace Go.Proofs.YtnlacmnoocigiaaGreatDoor
def z3a (O:List z0b)(x:z0b)(k:Nat):List z0b:=O.take k++x::O.drop k
theorem zha {O:List z0b}{x:z0b}{k:Nat}(h:k≤O.length):(z3a O x k).length=O.length+1:=by unfold z3a;rw[List.length_append,List.length_take,List.length_cons,List.length_drop];omega
theorem zqu (O:List z0b)(x:z0b):z3a O x O.length=O++[x]:=by unfold z3a;rw[List.take_of_length_le (Nat.le_refl _),List.drop_of_length_le (Nat.le_refl _)]
theorem zu0 {O:List z0b}{x:z0b}{k:Nat}(h:k≤O.length):(z3a O x k)[k]? =some x:=by unfold z3a;rw[List.getElem?_append_right (by rw[List.length_take];omega),List.length_take,show k - min k O.length=0 by omega];rfl
theorem zj2 {O:List z0b}{x:z0b}{k j:Nat}(h:k≤O.length)(hj:j<k):(z3a O x k)[j]? =O[j]? :=by unfold z3a;rw[List.getElem?_append_left (by rw[List.length_take];omega),List.getElem?_take,if_pos hj]
theorem zmk {O:List z0b}{x y:z0b}{j:Nat}(h:j<O.length)(hy:O[j]? =some y):((z3a O x (j+1)).set j x).set (j+1) y=z3a O x j:=by
 have e1:z3a O x (j+1)=O.take j++y::x::O.drop (j+1):=by
  unfold z3a;rw[List.take_succ_eq_append_getElem h];have:O[j]=y:=by rw[List.getElem?_eq_getElem h] at hy;exact Option.some.inj hy
  rw[this,List.append_assoc];rfl
 have e2:z3a O x j=O.take j++x::y::O.drop (j+1):=by
  unfold z3a;rw[List.drop_eq_getElem_cons h];have:O[j]=y:=by rw[List.getElem?_eq_getElem h] at hy;exact Option.some.inj hy
  rw[this]
 have hl:(O.take j).length=j:=by rw[List.length_take];omega
 rw[e1,e2,List.set_append_right _ _ (by omega),hl,Nat.sub_self,List.set_cons_zero,List.set_append_right _ _ (by omega),hl,show j+1 - j=1 by omega];rfl
theorem zml (O:List z0b)(x:z0b)(k:Nat):(z3a O x k).Perm (O++[x]):=by unfold z3a;refine List.perm_middle.trans ?_;rw[List.take_append_drop];exact(List.perm_append_singleton x O).symm
def SlotOk (O:List z0b)(x:z0b)(k:Nat):Prop:=k≤O.length∧∀y∈O.drop k,ltA x y
theorem SlotOk.start (O:List z0b)(x:z0b):SlotOk O x O.length:=⟨Nat.le_refl _,fun y hy=>by simp at hy⟩
theorem SlotOk.step {O:List z0b}{x y:z0b}{j:Nat}(h:SlotOk O x (j+1))(hy:O[j]? =some y)(hlt:ltA x y):SlotOk O x j:=by
 have hj:j<O.length:=by have:=h.1;omega
 refine⟨by omega,fun z hz=> ?_⟩;rw[List.drop_eq_getElem_cons hj,List.mem_cons] at hz;rcases hz with rfl|hz
 · have:O[j]=y:=by rw[List.getElem?_eq_getElem hj] at hy;exact Option.some.inj hy
   rw[this];exact hlt
 · exact h.2 z hz
theorem zaa {O:List z0b}{x:z0b}{k:Nat}(hO:O.Pairwise ltA)(h:SlotOk O x k)(hk:∀j y,k=j+1→O[j]? =some y→ltA y x):(z3a O x k).Pairwise ltA:=by
 unfold z3a;rw[List.pairwise_append,List.pairwise_cons];have h1:=hO;rw[←List.take_append_drop k O,List.pairwise_append] at h1
 have hall:∀y∈O.take k,ltA y x:=fun y hy=>by
  cases k with
  |zero=>simp at hy
  |succ j=>
   have hj:j<O.length:=by have:=h.1;omega
   have hlast:=hk j O[j] rfl (List.getElem?_eq_getElem hj);rw[List.take_succ_eq_append_getElem hj,List.mem_append,List.mem_singleton] at hy;rcases hy with hy|rfl
   · have h2:=h1.1;rw[List.take_succ_eq_append_getElem hj,List.pairwise_append] at h2;exact z35 (h2.2.2 y hy _ (by simp)) hlast
   · exact hlast
 refine⟨h1.1,⟨h.2,h1.2.1⟩,fun y hy z hz=> ?_⟩;rcases List.mem_cons.1 hz with rfl|hz
 · exact hall y hy
 · exact h1.2.2 y hy z hz
theorem zqv {L O:List z0b}{x:z0b}{k j:Nat}{y:z0b}(hp:(O++[x]).Perm (L.take (O.length+1)))(h:k≤O.length)(hj:k=j+1)(hy:O[j]? =some y)(he:nmA y=nmA x):dupA L:=by intro hn;rw[←List.take_append_drop (O.length+1) L,List.map_append] at hn;have h1:=(List.nodup_append.1 hn).1;have h2:((O++[x]).map nmA).Nodup:=(hp.map nmA).nodup_iff.2 h1;rw[List.map_append,List.nodup_append] at h2;refine h2.2.2 (nmA y) (List.mem_map_of_mem (List.mem_of_getElem? hy)) (nmA x) (by simp) he
end Go.Proofs.YtnlacmnoocigiaaGreatDoor
namespace Go.Proofs.YtnlacmnoocigiaaGreatDoor
def zun (l:List Tok)(n:Nat):ResT→Prop
 |.inr _=>True
 |.inl (sub,rest)=>(∃k,0<k∧k≤l.length∧rest=l.drop k)∧0<sub.length∧n+sub.length≤4096
def LeftK (l:List Tok)(n:Nat):ResT→Prop
 |.inr _=>True
 |.inl (sub,rest)=>(∃k,k≤l.length∧rest=l.drop k)∧0<sub.length∧n+sub.length≤4096
theorem LeftK.more {l m:List Tok}{n j:Nat}(hm:m=l.drop j)(hj:j≤l.length):∀{r:ResT},LeftK m n r→LeftK l n r
 |.inr _,_=>trivial
 |.inl (sub,rest),h=>by obtain⟨⟨k,h1,h2⟩,h3⟩:=h;subst hm;rw[List.length_drop] at h1;exact⟨⟨j+k,by omega,by rw[h2,List.drop_drop]⟩,h3⟩
theorem z9u (E:List Tok→Nat→ResT)(hE:∀l n,n≤4096→zun l n (E l n))(x:Tok)(n size:Nat):∀(g:Nat) (l:List Tok) (acc:List NodeM) (text:ByteArray) (last:Int),0<acc.length→n+acc.length≤4096→
 LeftK l n (z6l E x n size g l acc text last)
 |0,_,_,_,_,_,_=>trivial
 |_+1,[],_,_,_,_,_=>trivial
 |g+1,y::rest,acc,text,last,ha,hn=>by
  rw[z6l];by_cases h2:y.kind=2
  · rw[if_pos h2];by_cases h3:bs y.name≠bs x.name
    · rw[if_pos h3];trivial
    · rw[if_neg h3];exact⟨⟨1,by simp,rfl⟩,by rw[z5s];exact ha,by rw[z5s];exact hn⟩
  · rw[if_neg h2];by_cases h4:y.kind=4
    · rw[if_pos h4];exact LeftK.more (l:=y::rest) (m:=rest) (j:=1) rfl (by simp) (z9u E hE x n size g rest acc (text++bs y.text) last ha hn)
    · rw[if_neg h4];have h0:=hE (y::rest) (n+acc.length) hn
      cases hc:E (y::rest) (n+acc.length) with
      |inr e=>trivial
      |inl p=>obtain⟨sub,rest'⟩:=p;rw[hc] at h0;obtain⟨⟨k,h1,h2,h5⟩,h6,h7⟩:=h0;exact(z9u E hE x n size g rest' (z40 acc n last (n+acc.length)++sub) text ((n+acc.length:Nat):Int) (by rw[List.length_append];omega) (by rw[List.length_append,z5r];omega)).more h5 h2
theorem z9v (size:Nat):∀(f:Nat) (l:List Tok) (parent:Int) (deep n:Nat),n≤4096→zun l n (z5g size f l parent deep n)
 |0,_,_,_,_,_=>trivial
 |_+1,[],_,_,_,_=>trivial
 |f+1,x::rest,parent,deep,n,hn=>by
  rw[z5g];by_cases h1:dupA (z01 x)
  · rw[if_pos h1];trivial
  rw[if_neg h1];by_cases h2:n=4096∨64<deep
  · rw[if_pos h2];trivial
  rw[if_neg h2];by_cases h3:x.kind=3
  · rw[if_pos h3];exact⟨⟨1,by decide,by simp,rfl⟩,by simp,by simp;omega⟩
  rw[if_neg h3];have:=z9u (fun l m=>z5g size f l n (deep+1) m) (fun l m hm=>z9v size f l n (deep+1) m hm) x n size (rest.length+1) rest [newN x parent] ⟨#[]⟩ (-1) (by simp) (by simp;omega);generalize z6l _ _ _ _ _ _ _ _ _=r at this
  cases r with
  |inr=>trivial
  |inl p=>obtain⟨⟨k,h1,h2⟩,h3,h4⟩:=this;exact⟨⟨k+1,by omega,by simpa using h1,by rw[h2];rfl⟩,h3,h4⟩
def z2j :List Tok→Nat
 |[]=>0
 |x::l=>x.text.length+z2j l
theorem zcd (l:List Tok)(k:Nat):z2j (l.drop k)≤z2j l:=by
 induction l generalizing k with
 |nil=>simp[z2j]
 |cons x l ih=>
  cases k with
  |zero=>exact Nat.le_refl _
  |succ k=>exact Nat.le_trans (ih k) (by simp[z2j])
theorem zmm {l:List Tok}{x:Tok}(h:x∈l):x.text.length≤z2j l:=by
 induction l with
 |nil=>cases h
 |cons y l ih=>
  rcases List.mem_cons.1 h with rfl|h
  · simp[z2j]
  · have:=ih h;simp[z2j];omega
theorem z9w :∀l:List Tok,∃k,k≤l.length∧z4s l=l.drop k
 |[]=>⟨0,Nat.le_refl _,rfl⟩
 |x::l=>by
  rw[z4s];split
  · obtain⟨k,h1,h2⟩:=z9w l;exact⟨k+1,by simpa using h1,h2⟩
  · exact⟨0,Nat.zero_le _,rfl⟩
end Go.Proofs.YtnlacmnoocigiaaGreatDoor
