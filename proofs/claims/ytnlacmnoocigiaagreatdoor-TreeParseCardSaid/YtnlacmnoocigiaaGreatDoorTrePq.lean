/- Trees in plain Lean: attributes in order; the tree that tokens make, token by token, and element by element. -/
import Derived.Test.YtnlacmnoocigiaaGreatDoorTokR
namespace Go.Proofs.YtnlacmnoocigiaaGreatDoor
abbrev z0b :=ByteArray×ByteArray
def nmA (a:z0b):List UInt8:=a.1.data.toList
theorem zh1 (a:UInt8):¬a<a:=by rw[UInt8.lt_iff_toNat_lt];omega
theorem z2o :∀l:List UInt8,¬l<l
 |[]=>by simp
 |a::l=>by
  rw[List.cons_lt_cons_iff];rintro(h|h)
  · exact zh1 a h
  · exact z2o l h.2
theorem z35 :∀{x y z:List UInt8},x<y→y<z→x<z
 |[],[],_,h,_=>absurd h (by simp)
 |[],_::_,[],_,h=>absurd h (by simp)
 |[],_::_,_::_,_,_=>by simp
 |_::_,[],_,h,_=>absurd h (by simp)
 |_::_,_::_,[],_,h=>absurd h (by simp)
 |a::x,b::y,c::z,h,g=>by
  rw[List.cons_lt_cons_iff] at*;rcases h with h|⟨rfl,h⟩
  · rcases g with g|⟨rfl,g⟩
    · exact .inl (by rw[UInt8.lt_iff_toNat_lt] at*;omega)
    · exact .inl h
  · rcases g with g|⟨rfl,g⟩
    · exact .inl g
    · exact .inr ⟨rfl,z35 h g⟩
theorem za9 :∀(x y:List UInt8),x<y∨x=y∨y<x
 |[],[]=>.inr (.inl rfl)
 |[],_::_=>.inl (by simp)
 |_::_,[]=>.inr (.inr (by simp))
 |a::x,b::y=>by
  rw[List.cons_lt_cons_iff,List.cons_lt_cons_iff];rcases Nat.lt_trichotomy a.toNat b.toNat with h|h|h
  · exact .inl (.inl (UInt8.lt_iff_toNat_lt.2 h))
  · have hab:a=b:=UInt8.toNat_inj.1 h;subst hab;rcases za9 x y with h|rfl|h
    · exact .inl (.inr ⟨rfl,h⟩)
    · exact .inr (.inl rfl)
    · exact .inr (.inr (.inr ⟨rfl,h⟩))
  · exact .inr (.inr (.inl (UInt8.lt_iff_toNat_lt.2 h)))
def ltA (a b:z0b):Prop:=nmA a<nmA b
def insA (x:z0b):List z0b→List z0b
 |[]=>[x]
 |y::l=>if nmA y<nmA x then y::insA x l else x::y::l
def z5f :List z0b→List z0b
 |[]=>[]
 |x::l=>insA x (z5f l)
def dupA (l:List z0b):Prop:=¬(l.map nmA).Nodup
instance (l :List z0b):Decidable (dupA l):=inferInstanceAs (Decidable (¬_))
theorem zc3 (x:z0b):∀l,(insA x l).Perm (x::l)
 |[]=>.refl _
 |y::l=>by
  rw[insA];split
  · exact((zc3 x l).cons y).trans (.swap x y l)
  · exact .refl _
theorem z5q :∀l,(z5f l).Perm l
 |[]=>.refl _
 |x::l=>(zc3 x (z5f l)).trans ((z5q l).cons x)
theorem zc4 (x:z0b):∀l:List z0b,l.Pairwise ltA→(∀y∈l,nmA y≠nmA x)→(insA x l).Pairwise ltA
 |[],_,_=>by simp[insA]
 |y::l,h,hn=>by
  rw[List.pairwise_cons] at h;rw[insA];split
  · rename_i hlt;rw[List.pairwise_cons];refine⟨fun z hz=> ?_,zc4 x l h.2 (fun z hz=>hn z (by simp[hz]))⟩;rcases List.mem_cons.1 ((zc3 x l).mem_iff.1 hz) with rfl|hz
    · exact hlt
    · exact h.1 z hz
  · rename_i hlt
    have hxy:ltA x y:=by
     rcases za9 (nmA x) (nmA y) with h1|h1|h1
     · exact h1
     · exact absurd h1.symm (hn y (by simp))
     · exact absurd h1 hlt
    rw[List.pairwise_cons];refine⟨fun z hz=> ?_,List.pairwise_cons.2 h⟩;rcases List.mem_cons.1 hz with rfl|hz
    · exact hxy
    · exact z35 hxy (h.1 z hz)
theorem z73 :∀{l:List z0b},(l.map nmA).Nodup→(z5f l).Pairwise ltA
 |[],_=>.nil
 |x::l,h=>by rw[List.map_cons,List.nodup_cons] at h;refine zc4 x _ (z73 h.2) fun y hy e=>h.1 ?_;rw[←e];exact List.mem_map_of_mem ((z5q l).mem_iff.1 hy)
theorem zh2 {l:List z0b}(h:l.Pairwise ltA):(l.map nmA).Nodup:=by unfold List.Nodup;rw[List.pairwise_map];refine h.imp ?_;intro a b hab e;unfold ltA at hab;rw[e] at hab;exact z2o _ hab
theorem z92 :∀{a b:List z0b},a.Pairwise ltA→b.Pairwise ltA→a.Perm b→a=b
 |[],b,_,_,h=>(List.nil_perm.1 h).symm ▸ rfl
 |x::a,[],_,_,h=>absurd h.length_eq (by simp)
 |x::a,y::b,ha,hb,h=>by
  have hxy:x=y:=by
   rw[List.pairwise_cons] at ha hb;rcases List.mem_cons.1 (h.mem_iff.1 (List.mem_cons_self)) with e|h1
   · exact e
   rcases List.mem_cons.1 (h.mem_iff.2 (List.mem_cons_self)) with e|h2
   · exact e.symm
   exact absurd (z35 (hb.1 x h1) (ha.1 y h2)) (z2o _)
  subst hxy;rw[z92 (List.pairwise_cons.1 ha).2 (List.pairwise_cons.1 hb).2 ((List.perm_cons x).1 h)]
theorem zki {l m:List z0b}(hm:m.Pairwise ltA)(hp:m.Perm l):m=z5f l∧¬dupA l:=by have hn:(l.map nmA).Nodup:=(hp.map nmA).nodup_iff.1 (zh2 hm);exact⟨z92 hm (z73 hn) (hp.trans (z5q l).symm),fun h=>h hn⟩
theorem zxr {l m:List z0b}(hp:m.Perm l)(h:¬(m.map nmA).Nodup):dupA l:=fun hn=>h ((hp.map nmA).nodup_iff.2 hn)
structure NodeM where
 name:ByteArray
 attrs:List z0b
 text:ByteArray
 parent:Int
 first:Int
 next:Int
 at_:Int
def bs (l:List UInt8):ByteArray:=⟨l.toArray⟩
def z01 (x:Tok):List z0b:=x.attrs.map fun p=>(bs p.1,bs p.2)
def z23 (s:ByteArray):Bool:=s.data.toList.all z0z
def fstN (n:Int)(x:NodeM):NodeM:={x with first:=n}
def nxtN (n:Int)(x:NodeM):NodeM:={x with next:=n}
def txtN (t:ByteArray)(x:NodeM):NodeM:={x with text:=t}
def newN (x:Tok)(parent:Int):NodeM:=⟨bs x.name,z5f (z01 x),⟨#[]⟩,parent, -1, -1,x.at_⟩
structure BldM where
 nodes:List NodeM
 texts:List ByteArray
 lasts:List Int
 inn:Int
 deep:Nat
def z27 (l:List NodeM)(p k:Int)(n:Nat):List NodeM:=if k= -1 then l.modify p.toNat (fstN n) else l.modify k.toNat (nxtN n)
def z2a (b:BldM):Int:=b.lasts[b.inn.toNat]?.getD (-1)
def z0n (b:BldM)(x:Tok):BldM ⊕ Int:=
 if(b.inn= -1∧b.nodes≠[])∨dupA (z01 x) then .inr 50
 else if b.nodes.length=4096∨b.deep=64 then .inr 3
 else .inl {
  nodes:=if b.inn= -1 then b.nodes++[newN x b.inn] else z27 (b.nodes++[newN x b.inn]) b.inn (z2a b) b.nodes.length
  texts:=b.texts++[⟨#[]⟩]
  lasts:=if b.inn= -1 then b.lasts++[-1] else(b.lasts++[-1]).set b.inn.toNat b.nodes.length
  inn:=b.nodes.length
  deep:=b.deep+1}
def z11 (b:BldM):ByteArray:=b.texts[b.inn.toNat]?.getD ⟨#[]⟩
def z3e (b:BldM):NodeM:=b.nodes[b.inn.toNat]?.getD ⟨⟨#[]⟩,[],⟨#[]⟩, -1, -1, -1,0⟩
def z3x (b:BldM):BldM:={
 nodes:=if z23 (z11 b)=true then b.nodes else b.nodes.modify b.inn.toNat (txtN (z11 b))
 texts:=b.texts
 lasts:=b.lasts
 inn:=(z3e b).parent
 deep:=b.deep - 1}
def z1r (b:BldM)(x:Tok):BldM ⊕ Int:=if b.inn= -1∨(z3e b).name≠bs x.name then .inr 50 else .inl (z3x b)
def z4r (b:BldM)(x:Tok):BldM ⊕ Int:=match z0n b x with
 |.inl b'=>.inl (z3x b')
 |.inr e=>.inr e
def z6k (b:BldM)(x:Tok):BldM ⊕ Int:=
 if b.inn≠ -1 then .inl {b with texts:=b.texts.set b.inn.toNat (z11 b++bs x.text)}
 else if z23 (bs x.text)=true then .inl b else .inr 50
def z1l (b:BldM)(x:Tok):BldM ⊕ Int:=if x.kind=1 then z0n b x else if x.kind=2 then z1r b x else if x.kind=3 then z4r b x else z6k b x
def runM (b:BldM):List Tok→BldM ⊕ (Int×Int)
 |[]=>.inl b
 |x::l=>match z1l b x with
  |.inl b'=>runM b' l
  |.inr e=>.inr (x.at_,e)
def initM :BldM:=⟨[],[],[], -1,0⟩
def finM (size:Nat):BldM ⊕ (Int×Int)→List NodeM×Int×Int
 |.inr (p,e)=>([],p,e)
 |.inl b=>if b.inn≠ -1∨b.nodes=[] then([],size,50) else(b.nodes,0,0)
def z2v (s:List UInt8):List NodeM×Int×Int:=if(tokR s).2.2≠0 then([],(tokR s).2.1,(tokR s).2.2) else finM s.length (runM initM (tokR s).1)
end Go.Proofs.YtnlacmnoocigiaaGreatDoor
namespace Go.Proofs.YtnlacmnoocigiaaGreatDoor
abbrev ResT :=(List NodeM×List Tok) ⊕ (Int×Int)
def z40 (acc:List NodeM)(n:Nat)(last:Int)(m:Nat):List NodeM:=if last= -1 then acc.modify 0 (fstN m) else acc.modify (last.toNat - n) (nxtN m)
def z93 (acc:List NodeM)(text:ByteArray):List NodeM:=if z23 text=true then acc else acc.modify 0 (txtN text)
def z6l (E:List Tok→Nat→ResT)(x:Tok)(n size:Nat):Nat→List Tok→List NodeM→ByteArray→Int→ResT
 |0,_,_,_,_=>.inr (0,0)
 |_+1,[],_,_,_=>.inr (size,50)
 |g+1,y::rest,acc,text,last=>
  if y.kind=2 then(if bs y.name≠bs x.name then .inr (y.at_,50) else .inl (z93 acc text,rest))
  else if y.kind=4 then z6l E x n size g rest acc (text++bs y.text) last
  else match E (y::rest) (n+acc.length) with
   |.inr e=>.inr e
   |.inl (sub,rest')=>z6l E x n size g rest' (z40 acc n last (n+acc.length)++sub) text ((n+acc.length:Nat):Int)
def z5g (size:Nat):Nat→List Tok→Int→Nat→Nat→ResT
 |0,_,_,_,_=>.inr (0,0)
 |_+1,[],_,_,_=>.inr (0,0)
 |f+1,x::rest,parent,deep,n=>
  if dupA (z01 x) then .inr (x.at_,50)
  else if n=4096∨64<deep then .inr (x.at_,3)
  else if x.kind=3 then .inl ([newN x parent],rest)
  else z6l (fun l m=>z5g size f l n (deep+1) m) x n size (rest.length+1) rest [newN x parent] ⟨#[]⟩ (-1)
def z4s :List Tok→List Tok
 |[]=>[]
 |x::l=>if x.kind=4∧z23 (bs x.text)=true then z4s l else x::l
def refM (size:Nat)(toks:List Tok):List NodeM×Int×Int:=
 match z4s toks with
 |[]=>([],size,50)
 |x::l=>if x.kind=2∨x.kind=4 then([],x.at_,50)
  else match z5g size ((x::l).length+1) (x::l) (-1) 1 0 with
   |.inr e=>([],e.1,e.2)
   |.inl (sub,rest)=>match z4s rest with
    |[]=>(sub,0,0)
    |y::_=>([],y.at_,50)
theorem z4i {α:Type}(f:α→α):∀(a b:List α) (i:Nat),(a++b).modify (a.length+i) f=a++b.modify i f
 |[],b,i=>by simp
 |x::a,b,i=>by rw[List.length_cons,List.cons_append,show a.length+1+i=(a.length+i)+1 from by omega,List.modify_succ_cons,z4i f a b i,List.cons_append]
theorem z74 {α:Type}(f:α→α):∀(a b:List α) (i:Nat),i<a.length→(a++b).modify i f=a.modify i f++b
 |[],b,i,h=>absurd h (by simp)
 |x::a,b,0,h=>by simp
 |x::a,b,i+1,h=>by rw[List.cons_append,List.modify_succ_cons,List.modify_succ_cons,z74 f a b i (by simpa using h),List.cons_append]
theorem zev {α:Type}(v:α):∀(a b:List α) (i:Nat),(a++b).set (a.length+i) v=a++b.set i v
 |[],b,i=>by simp
 |x::a,b,i=>by rw[List.length_cons,List.cons_append,show a.length+1+i=(a.length+i)+1 from by omega,List.set_cons_succ,zev v a b i,List.cons_append]
theorem zas {α:Type}(a b:List α):(a++b)[a.length]? =b[0]? :=by rw[List.getElem?_append_right (Nat.le_refl _),Nat.sub_self]
theorem zh3 {N acc:List NodeM}{last:Int}{m:Nat}(h:last= -1∨((N.length:Int)≤last∧last<N.length+acc.length)):
 z27 (N++acc) N.length last m=N++z40 acc N.length last m:=by
 unfold z27 z40;by_cases hl:last= -1
 · rw[if_pos hl,if_pos hl,Int.toNat_natCast];exact z4i _ N acc 0
 · rw[if_neg hl,if_neg hl];have h2:last.toNat=N.length+(last.toNat - N.length):=by omega
   rw[h2,z4i,show N.length+(last.toNat - N.length) - N.length=last.toNat - N.length from by omega]
theorem zc5 (l:List NodeM)(p k:Int)(n:Nat):(z27 l p k n).length=l.length:=by unfold z27;split<;>simp
theorem z5r (l:List NodeM)(p:Nat)(k:Int)(n:Nat):(z40 l p k n).length=l.length:=by unfold z40;split<;>simp
theorem z5s (l:List NodeM)(t:ByteArray):(z93 l t).length=l.length:=by unfold z93;split<;>simp
theorem zmd {N:List NodeM}{x:NodeM}{p k:Int}{n:Nat}(hp:p.toNat<N.length)(hk:k= -1∨k.toNat<N.length):z27 (N++[x]) p k n=z27 N p k n++[x]:=by
 unfold z27;split
 · exact z74 _ _ _ _ hp
 · rename_i h;exact z74 _ _ _ _ (hk.resolve_left h)
theorem z6f {f:NodeM→NodeM}(hf:∀x,(f x).name=x.name∧(f x).parent=x.parent):∀(l:List NodeM) (i:Nat),((l.modify i f)[0]?.map fun x=>(x.name,x.parent))=l[0]?.map fun x=>(x.name,x.parent)
 |[],_=>by simp
 |x::l,0=>by simp[hf]
 |x::l,i+1=>by simp
theorem zme (l:List NodeM)(n:Nat)(k:Int)(m:Nat):((z40 l n k m)[0]?.map fun x=>(x.name,x.parent))=l[0]?.map fun x=>(x.name,x.parent):=by
 unfold z40;split
 · exact z6f (f:=fstN m) (fun x=>⟨rfl,rfl⟩) _ _
 · exact z6f (f:=nxtN m) (fun x=>⟨rfl,rfl⟩) _ _
structure WfB (b:BldM):Prop where
 d:b.deep≤64
 t:b.texts.length=b.nodes.length
 l:b.lasts.length=b.nodes.length
 i:(b.inn= -1∧b.nodes=[])∨(b.inn≠ -1∧b.inn.toNat<b.nodes.length∧(z2a b= -1∨(z2a b).toNat<b.nodes.length))
def z94 (b:BldM):List NodeM:=if b.inn= -1 then b.nodes else z27 b.nodes b.inn (z2a b) b.nodes.length
def z95 (b:BldM):List Int:=if b.inn= -1 then b.lasts else b.lasts.set b.inn.toNat b.nodes.length
theorem z78 (b:BldM):(z94 b).length=b.nodes.length:=by unfold z94;split;rfl;exact zc5 _ _ _ _
theorem zq8 (b:BldM):(z95 b).length=b.lasts.length:=by unfold z95;split<;>simp
theorem zq9 {b:BldM}(h:WfB b){x:Tok}(hd:¬dupA (z01 x))(hl:¬(b.nodes.length=4096∨b.deep=64)):
 z0n b x=.inl ⟨z94 b++[newN x b.inn],b.texts++[⟨#[]⟩],z95 b++[-1],b.nodes.length,b.deep+1⟩:=by
 unfold z0n
 rw[if_neg (fun h1=>by
  rcases h1 with h1|h1
  · rcases h.i with h2|h2
    · exact h1.2 h2.2
    · exact h2.1 h1.1
  · exact hd h1),if_neg hl]
 unfold z94 z95;rcases h.i with h2|⟨h2,h3,h4⟩
 · rw[if_pos h2.1,if_pos h2.1,if_pos h2.1,if_pos h2.1]
 · rw[if_neg h2,if_neg h2,if_neg h2,if_neg h2,zmd h3 h4,List.set_append_left _ _ (by rw[h.l];exact h3)]
def KindOk (l:List Tok):Prop:=∀x∈l,x.kind=1∨x.kind=2∨x.kind=3∨x.kind=4
def inB (N acc:List NodeM)(T0 T:List ByteArray)(L0 L:List Int)(text:ByteArray)(last:Int)(deep:Nat):BldM:=⟨N++acc,T0++text::T,L0++last::L,N.length,deep⟩
theorem zkj {N acc:List NodeM}{T0 T:List ByteArray}{L0 L:List Int}{text:ByteArray}{last:Int}{deep:Nat}(h:T0.length=N.length):z11 (inB N acc T0 T L0 L text last deep)=text:=by unfold z11 inB;simp only[Int.toNat_natCast];rw[←h,zas];rfl
theorem zkk {N acc:List NodeM}{T0 T:List ByteArray}{L0 L:List Int}{text:ByteArray}{last:Int}{deep:Nat}(h:L0.length=N.length):z2a (inB N acc T0 T L0 L text last deep)=last:=by unfold z2a inB;simp only[Int.toNat_natCast];rw[←h,zas];rfl
theorem zkl {N acc:List NodeM}{T0 T:List ByteArray}{L0 L:List Int}{text:ByteArray}{last:Int}{deep:Nat}(h:T0.length=N.length){nm:ByteArray}{pa:Int}(ha:acc[0]?.map (fun x=>(x.name,x.parent))=some (nm,pa)):
 z3x (inB N acc T0 T L0 L text last deep)=⟨N++z93 acc text,T0++text::T,L0++last::L,pa,deep - 1⟩∧(z3e (inB N acc T0 T L0 L text last deep)).name=nm:=by
 have hn:(z3e (inB N acc T0 T L0 L text last deep)).name=nm∧(z3e (inB N acc T0 T L0 L text last deep)).parent=pa:=by
  unfold z3e inB;simp only[Int.toNat_natCast];rw[zas]
  cases hc:acc[0]? with
  |none=>rw[hc] at ha;cases ha
  |some y=>rw[hc] at ha;simp only[Option.map_some,Option.some.injEq,Prod.mk.injEq] at ha;exact ha
 refine⟨?_,hn.1⟩;unfold z3x;rw[zkj h,hn.2];unfold z93;refine(BldM.mk.injEq ..).mpr ⟨?_,rfl,rfl,rfl,rfl⟩;by_cases hb:z23 text=true
 · rw[if_pos hb,if_pos hb];rfl
 · rw[if_neg hb,if_neg hb];show (N++acc).modify ((N.length:Int).toNat) (txtN text)=_;rw[Int.toNat_natCast];exact z4i _ N acc 0
def zul (size:Nat)(b:BldM)(l:List Tok)(r:ResT):Prop:=
 match r with
 |.inr e=>finM size (runM b l)=([],e.1,e.2)
 |.inl (sub,rest)=>∃T L,T.length=sub.length∧L.length=sub.length∧0<sub.length∧rest.length<l.length∧KindOk rest∧runM b l=runM ⟨z94 b++sub,b.texts++T,z95 b++L,b.inn,b.deep⟩ rest
def zxs (size:Nat)(N:List NodeM)(T0:List ByteArray)(L0:List Int)(pa:Int)(deep:Nat)(b:BldM)(l:List Tok)(r:ResT):Prop:=
 match r with
 |.inr e=>finM size (runM b l)=([],e.1,e.2)
 |.inl (sub,rest)=>∃T L,T.length=sub.length∧L.length=sub.length∧0<sub.length∧rest.length<l.length∧KindOk rest∧runM b l=runM ⟨N++sub,T0++T,L0++L,pa,deep⟩ rest
theorem KindOk.tail {x:Tok}{l:List Tok}(h:KindOk (x::l)):KindOk l:=fun y hy=>h y (List.mem_cons_of_mem _ hy)
theorem z36 {b b':BldM}{x:Tok}{l:List Tok}(h:z1l b x=.inl b'):runM b (x::l)=runM b' l:=by rw[runM,h]
theorem z69 {b:BldM}{x:Tok}{l:List Tok}{e:Int}(h:z1l b x=.inr e):runM b (x::l)=.inr (x.at_,e):=by rw[runM,h]
theorem zdj {b:BldM}{x:Tok}(h:x.kind=1):z1l b x=z0n b x:=by rw[z1l,if_pos h]
theorem zc6 {b:BldM}{x:Tok}(h:x.kind=2):z1l b x=z1r b x:=by rw[z1l,if_neg (by omega),if_pos h]
theorem zh4 {b:BldM}{x:Tok}(h:x.kind=3):z1l b x=z4r b x:=by rw[z1l,if_neg (by omega),if_neg (by omega),if_pos h]
theorem zdk {b:BldM}{x:Tok}(h:x.kind=4):z1l b x=z6k b x:=by rw[z1l,if_neg (by omega),if_neg (by omega),if_neg (by omega)]
theorem zew (size:Nat)(N:List NodeM)(T0:List ByteArray)(L0:List Int)(pa:Int)(deep:Nat)(x:Tok)(hT0:T0.length=N.length)(hL0:L0.length=N.length)(hdp:deep+1≤64)(m:Nat)
 (E:List Tok→Nat→ResT) (hE:∀(b:BldM) (y:Tok) (l:List Tok),l.length<m→(y.kind=1∨y.kind=3)→KindOk (y::l)→WfB b→b.inn=N.length→b.deep=deep+1→zul size b (y::l) (E (y::l) b.nodes.length)):
 ∀(g:Nat) (l:List Tok) (acc:List NodeM) (T:List ByteArray) (L:List Int) (text:ByteArray) (last:Int),l.length<g→l.length≤m→KindOk l→
  T.length+1=acc.length→L.length+1=acc.length→acc[0]?.map (fun y=>(y.name,y.parent))=some (bs x.name,pa)→(last= -1∨((N.length:Int)≤last∧last<N.length+acc.length))→
  zxs size N T0 L0 pa deep (inB N acc T0 T L0 L text last (deep+1)) l (z6l E x N.length size g l acc text last)
 |0,_,_,_,_,_,_,h,_,_,_,_,_,_=>by omega
 |g+1,[],acc,T,L,text,last,_,_,_,_,_,_,_=>by rw[z6l];show finM size (.inl _)=_;unfold finM;simp only;rw[if_pos (.inl (by show (N.length:Int)≠ -1;omega))]
 |g+1,y::l,acc,T,L,text,last,hg,hm,hk,hT,hL,ha,hlast=>by
  have hne:(N.length:Int)≠ -1:=by omega
  obtain⟨he1,he2⟩:=zkl (T:=T) (L0:=L0) (L:=L) (text:=text) (last:=last) (deep:=deep+1) hT0 ha;rw[z6l];simp only[List.length_cons] at hg hm;by_cases k2:y.kind=2
  · rw[if_pos k2];by_cases hn:bs y.name≠bs x.name
    · rw[if_pos hn];show finM size (runM _ _)=_;rw[z69 (e:=50) (by rw[zc6 k2];unfold z1r;rw[he2,if_pos (.inr (fun e=>hn e.symm))])];rfl
    · rw[if_neg hn];refine⟨text::T,last::L,by simp[z5s,hT],by simp[z5s,hL],by rw[z5s];omega,by simp,hk.tail, ?_⟩
      rw[z36 (b':=_) (by rw[zc6 k2];unfold z1r;rw[he2,if_neg (fun h=>by
       rcases h with h|h
       · exact hne h
       · exact h (Decidable.not_not.1 hn).symm)]),he1]
      rfl
  · rw[if_neg k2];by_cases k4:y.kind=4
    · rw[if_pos k4];have hs:z1l (inB N acc T0 T L0 L text last (deep+1)) y=.inl (inB N acc T0 T L0 L (text++bs y.text) last (deep+1)):=by rw[zdk k4];unfold z6k;rw[if_pos (show (inB N acc T0 T L0 L text last (deep+1)).inn≠ -1 from hne),zkj hT0];unfold inB;simp only[Int.toNat_natCast,Sum.inl.injEq,BldM.mk.injEq,true_and,and_true];rw[←hT0];exact zev _ T0 (text::T) 0
      have ih:=zew size N T0 L0 pa deep x hT0 hL0 hdp m E hE g l acc T L (text++bs y.text) last (by omega) (by omega) hk.tail hT hL ha hlast
      cases hr:z6l E x N.length size g l acc (text++bs y.text) last with
      |inr e=>rw[hr] at ih;show finM size (runM _ _)=_;rw[z36 hs];exact ih
      |inl p=>rw[hr] at ih;obtain⟨sub,rest⟩:=p;obtain⟨T',L',h1,h2,h3,h4,h5,h6⟩:=ih;exact⟨T',L',h1,h2,h3,by simp only[List.length_cons];omega,h5,by rw[z36 hs];exact h6⟩
    · rw[if_neg k4]
      have hwf:WfB (inB N acc T0 T L0 L text last (deep+1)):=⟨hdp,by simp[inB,hT0];omega,by simp[inB,hL0];omega,.inr ⟨hne,by simp[inB];omega,by
       rw[zkk hL0];rcases hlast with h|h
       · exact .inl h
       · exact .inr (by simp only[inB,List.length_append];omega)⟩⟩
      have hel:=hE (inB N acc T0 T L0 L text last (deep+1)) y l (by omega) (by have:=hk y (by simp);omega) hk hwf rfl rfl;have hlen:(inB N acc T0 T L0 L text last (deep+1)).nodes.length=N.length+acc.length:=by simp[inB]
      rw[hlen] at hel
      cases hr:E (y::l) (N.length+acc.length) with
      |inr e=>rw[hr] at hel;exact hel
      |inl p=>
       obtain⟨sub,rest⟩:=p;rw[hr] at hel;obtain⟨T',L',h1,h2,h3,h4,h5,h6⟩:=hel;simp only;have e1:z94 (inB N acc T0 T L0 L text last (deep+1))=N++z40 acc N.length last (N.length+acc.length):=by unfold z94;rw[if_neg (show (inB N acc T0 T L0 L text last (deep+1)).inn≠ -1 from hne),zkk hL0,hlen];exact zh3 hlast
       have e2:z95 (inB N acc T0 T L0 L text last (deep+1))=L0++((N.length+acc.length:Nat):Int)::L:=by unfold z95;rw[if_neg (show (inB N acc T0 T L0 L text last (deep+1)).inn≠ -1 from hne),hlen];show (L0++last::L).set (N.length:Int).toNat _=_;rw[Int.toNat_natCast,←hL0];exact zev _ L0 (last::L) 0
       have e3:runM (inB N acc T0 T L0 L text last (deep+1)) (y::l)=runM (inB N (z40 acc N.length last (N.length+acc.length)++sub) T0 (T++T') L0 (L++L') text ((N.length+acc.length:Nat):Int) (deep+1)) rest:=by rw[h6,e1,e2];unfold inB;simp only[List.append_assoc,List.cons_append]
       have ih:=zew size N T0 L0 pa deep x hT0 hL0 hdp m E hE g rest (z40 acc N.length last (N.length+acc.length)++sub) (T++T') (L++L') text ((N.length+acc.length:Nat):Int) (by simp only[List.length_cons] at h4;omega) (by simp only[List.length_cons] at h4;omega) h5
        (by simp only[List.length_append,z5r];omega) (by simp only[List.length_append,z5r];omega) (by rw[←ha,←zme acc N.length last (N.length+acc.length),List.getElem?_append_left (by rw[z5r];omega)]) (.inr ⟨by omega,by simp only[List.length_append,z5r];omega⟩)
       cases hq:z6l E x N.length size g rest (z40 acc N.length last (N.length+acc.length)++sub) text ((N.length+acc.length:Nat):Int) with
       |inr e=>rw[hq] at ih;show finM size (runM _ _)=_;rw[e3];exact ih
       |inl p=>rw[hq] at ih;obtain⟨sub2,rest2⟩:=p;obtain⟨T2,L2,g1,g2,g3,g4,g5,g6⟩:=ih;exact⟨T2,L2,g1,g2,g3,by omega,g5,by rw[e3];exact g6⟩
theorem zkm (size:Nat):∀(f:Nat) (b:BldM) (x:Tok) (l:List Tok),l.length<f→(x.kind=1∨x.kind=3)→KindOk (x::l)→WfB b→
 zul size b (x::l) (z5g size f (x::l) b.inn (b.deep+1) b.nodes.length)
 |0,_,_,_,h,_,_,_=>by omega
 |f+1,b,x,l,hf,hx,hk,hw=>by
  have hst:∀e,z0n b x=.inr e→runM b (x::l)=.inr (x.at_,e):=fun e he=>by
   rcases hx with hx|hx
   · exact z69 (by rw[zdj hx,he])
   · exact z69 (by rw[zh4 hx];unfold z4r;rw[he])
  rw[z5g];by_cases hd:dupA (z01 x)
  · rw[if_pos hd];show finM size (runM _ _)=_;rw[hst 50 (by unfold z0n;rw[if_pos (.inr hd)])];rfl
  · rw[if_neg hd];by_cases hl:b.nodes.length=4096∨64<b.deep+1
    · rw[if_pos hl];show finM size (runM _ _)=_
      rw[hst 3 (by
       unfold z0n
       rw[if_neg (fun h1=>by
        rcases h1 with h1|h1
        · rcases hw.i with h2|h2
          · exact h1.2 h2.2
          · exact h2.1 h1.1
        · exact hd h1),if_pos (by have:=hw.d;omega)])]
      rfl
    · rw[if_neg hl];have ho:=zq9 hw hd (by have:=hw.d;omega:¬(b.nodes.length=4096∨b.deep=64));have hb':(⟨z94 b++[newN x b.inn],b.texts++[⟨#[]⟩],z95 b++[-1],b.nodes.length,b.deep+1⟩:BldM)=inB (z94 b) [newN x b.inn] b.texts [] (z95 b) [] ⟨#[]⟩ (-1) (b.deep+1):=by unfold inB;rw[z78]
      rw[hb'] at ho;have hT0:b.texts.length=(z94 b).length:=by rw[z78,hw.t]
      have hL0:(z95 b).length=(z94 b).length:=by rw[z78,zq8,hw.l]
      by_cases k3:x.kind=3
      · rw[if_pos k3];obtain⟨he1, -⟩:=zkl (acc:=[newN x b.inn]) (T:=[]) (L0:=z95 b) (L:=[]) (text:=⟨#[]⟩) (last:= -1) (deep:=b.deep+1) hT0 (nm:=bs x.name) (pa:=b.inn) rfl;refine⟨[⟨#[]⟩],[-1],rfl,rfl,by simp,by simp,hk.tail, ?_⟩;rw[z36 (b':=_) (by rw[zh4 k3];unfold z4r;rw[ho]),he1];rfl
      · rw[if_neg k3];have k1:x.kind=1:=hx.resolve_right k3
        have hr:=zew size (z94 b) b.texts (z95 b) b.inn b.deep x hT0 hL0 (by omega) l.length (fun l m=>z5g size f l b.nodes.length (b.deep+1+1) m)
         (fun b2 y l2 h1 h2 h3 h4 h5 h6=>by have:=zkm size f b2 y l2 (by omega) h2 h3 h4;rw[h5,h6,z78] at this;exact this) (l.length+1) l [newN x b.inn] [] [] ⟨#[]⟩ (-1) (by omega) (Nat.le_refl _) hk.tail rfl rfl rfl (.inl rfl)
        rw[z78] at hr;have hs:runM b (x::l)=runM (inB (z94 b) [newN x b.inn] b.texts [] (z95 b) [] ⟨#[]⟩ (-1) (b.deep+1)) l:=z36 (by rw[zdj k1,ho])
        cases hq:z6l (fun l m=>z5g size f l b.nodes.length (b.deep+1+1) m) x b.nodes.length size (l.length+1) l [newN x b.inn] ⟨#[]⟩ (-1) with
        |inr e=>rw[hq] at hr;show finM size (runM _ _)=_;rw[hs];exact hr
        |inl p=>rw[hq] at hr;obtain⟨sub,rest⟩:=p;obtain⟨T,L,h1,h2,h3,h4,h5,h6⟩:=hr;exact⟨T,L,h1,h2,h3,by simp only[List.length_cons];omega,h5,by rw[hs];exact h6⟩
theorem zc7 (b:BldM)(hb:b.inn= -1):∀{l:List Tok},KindOk l→runM b l=runM b (z4s l)
 |[],_=>rfl
 |x::l,hk=>by
  rw[z4s];split
  · rename_i h;rw[z36 (b':=b) (by rw[zdk h.1];unfold z6k;rw[if_neg (by simp[hb]),if_pos h.2]),zc7 b hb hk.tail]
  · rfl
theorem zex :∀{l:List Tok},KindOk l→KindOk (z4s l)
 |[],h=>h
 |x::l,h=>by
  rw[z4s];split
  · exact zex h.tail
  · exact h
theorem z9o :∀{l:List Tok} {y:Tok} {r:List Tok},z4s l=y::r→¬(y.kind=4∧z23 (bs y.text)=true)
 |[],y,r,h=>by cases h
 |x::l,y,r,h=>by
  rw[z4s] at h;split at h
  · exact z9o h
  · rename_i hn;cases h;exact hn
theorem zqa (size:Nat)(toks:List Tok)(hk:KindOk toks):finM size (runM initM toks)=refM size toks:=by
 rw[zc7 initM rfl hk];unfold refM;have h0:=zex hk;have h1:= @z9o toks;generalize z4s toks=l at*
 cases l with
 |nil=>rfl
 |cons x l=>
  have hx:=h0 x (by simp);have hx4:=h1 rfl;simp only;by_cases h24:x.kind=2∨x.kind=4
  · rw[if_pos h24];rcases h24 with h2|h4
    · rw[z69 (e:=50) (by rw[zc6 h2];unfold z1r;rw[if_pos (.inl rfl)])];rfl
    · rw[z69 (e:=50) (by rw[zdk h4];unfold z6k;rw[if_neg (by simp[initM]),if_neg (fun h=>hx4 ⟨h4,h⟩)])];rfl
  · rw[if_neg h24];have hel:=zkm size ((x::l).length+1) initM x l (by simp only[List.length_cons];omega) (by omega) h0 ⟨by decide,rfl,rfl,.inl ⟨rfl,rfl⟩⟩;have e0:z5g size ((x::l).length+1) (x::l) initM.inn (initM.deep+1) initM.nodes.length=z5g size ((x::l).length+1) (x::l) (-1) 1 0:=rfl;rw[e0] at hel
    cases hr:z5g size ((x::l).length+1) (x::l) (-1) 1 0 with
    |inr e=>rw[hr] at hel;exact hel
    |inl p=>
     obtain⟨sub,rest⟩:=p;rw[hr] at hel;obtain⟨T,L,g1,g2,g3,g4,g5,g6⟩:=hel;rw[g6];simp only;generalize hB:(⟨z94 initM++sub,initM.texts++T,z95 initM++L,initM.inn,initM.deep⟩:BldM)=B;have hi:B.inn= -1:=by rw[←hB];rfl
     have hn:B.nodes=sub:=by rw[←hB];rfl
     have hn0:sub≠[]:=fun e=>by rw[e] at g3;exact absurd g3 (by simp)
     rw[zc7 B hi g5];have s0:=zex g5;have s1:= @z9o rest;generalize z4s rest=r at*
     cases r with
     |nil=>show finM size (.inl B)=_;unfold finM;simp only;rw[if_neg (by rw[hi,hn];simp[hn0]),hn]
     |cons y r=>
      have hy:=s0 y (by simp);have hy4:=s1 rfl;have hop:z0n B y=.inr 50:=by unfold z0n;rw[if_pos (.inl ⟨hi,by rw[hn];exact hn0⟩)]
      have hst:z1l B y=.inr 50:=by
       rcases hy with h|h|h|h
       · rw[zdj h,hop]
       · rw[zc6 h];unfold z1r;rw[if_pos (.inl hi)]
       · rw[zh4 h];unfold z4r;rw[hop]
       · rw[zdk h];unfold z6k;rw[if_neg (by simp[hi]),if_neg (fun hb=>hy4 ⟨h,hb⟩)]
      rw[z69 hst];rfl
end Go.Proofs.YtnlacmnoocigiaaGreatDoor
