/- tree: nodes in memory; the builder's box. -/
import Derived.Test.YtnlacmnoocigiaaGreatDoorTreAb
import Derived.Test.YtnlacmnoocigiaaGreatDoorTrePq
import Derived.BigRegion
import Derived.Deep.RegionHeld3
import Derived.Deep.RegionHeldLaw
namespace Go.Proofs.YtnlacmnoocigiaaGreatDoor
open Go.RowKit Go.Lib
def strT :Cod ByteArray where
 size:=1
 cells x:=[.string x]
 len _:=rfl
 one x u hu:=by simp only[List.mem_cons,List.not_mem_nil,or_false] at hu;subst hu;rfl
 pos:=by decide
def intT :Cod Int where
 size:=1
 cells x:=[.int .i64 x]
 len _:=rfl
 one x u hu:=by simp only[List.mem_cons,List.not_mem_nil,or_false] at hu;subst hu;rfl
 pos:=by decide
theorem zwk :El Tryz.prog 38 9 1 16:=El.mk (.string ⟨#[]⟩) Tryz.underlying38 (by kernel_rfl) rfl
theorem z88 :El Tryz.prog 40 3 1 8:=El.mk (.int .i64 0) Tryz.underlying40 (by kernel_rfl) rfl
structure NodeV where
 name:ByteArray
 A:Option Addr
 m:Nat
 c:Nat
 text:ByteArray
 parent:Int
 first:Int
 next:Int
 at_:Int
def nodeC :Cod NodeV where
 size:=7
 cells x:=[.string x.name,.slice x.A x.m x.c,.string x.text,.int .i64 x.parent,.int .i64 x.first,.int .i64 x.next,.int .i64 x.at_]
 len _:=rfl
 one x u hu:=by simp only[List.mem_cons,List.not_mem_nil,or_false] at hu;rcases hu with rfl|rfl|rfl|rfl|rfl|rfl|rfl<;>rfl
 pos:=by decide
theorem zes :El Tryz.prog 29 45 7 88:=El.mk (.agg #[.string ⟨#[]⟩,.slice none 0 0,.string ⟨#[]⟩,.int .i64 0,.int .i64 0,.int .i64 0,.int .i64 0]) Tryz.underlying29 (by kernel_rfl) rfl
structure NodeX where
 v:NodeV
 oa:Option Nat
 ats:List z0b
def NodeX.model (x:NodeX):NodeM:=⟨x.v.name,x.ats,x.v.text,x.v.parent,x.v.first,x.v.next,x.v.at_⟩
def NodeOk (w:World)(x:NodeX):Prop:=x.v.m=x.ats.length∧Own pairC w 47 (.slice x.v.A x.v.m x.v.c) x.oa x.ats
theorem NodeOk.fr {w w':World}{x:NodeX}{fp:Nat→Prop}(h:NodeOk w x)(f:Fr fp w w')(hs:∀k,x.oa=some k→¬fp k):NodeOk w' x:=⟨h.1,h.2.fr f hs⟩
structure BldL (w:World)(base b:Nat)(nv tv lv:Value)(on ot ol:Option Nat)(X:List NodeX)(T:List ByteArray)(L:List Int)(inn:Int)(deep:Nat):Prop where
 blk:w.heap[b]? =some (.cells #[nv,tv,lv,.int .i64 inn,.int .i64 (deep:Int)] 74 (0,0))
 nb:base≤b
 nodes:Own nodeC w 45 nv on (X.map (·.v))
 ok:∀x∈X,NodeOk w x
 texts:Own strT w 9 tv ot T
 lasts:Own intT w 3 lv ol L
 bn:∀k,on=some k→base≤k∧k≠b
 bt:∀k,ot=some k→base≤k∧k≠b∧on≠some k
 bl:∀k,ol=some k→base≤k∧k≠b∧on≠some k∧ot≠some k
 ba:∀x∈X,∀k,x.oa=some k→base≤k∧k≠b∧on≠some k∧ot≠some k∧ol≠some k
namespace BldL
variable {w w' : World} {base b : Nat} {nv tv lv : Value} {on ot ol : Option Nat} {X : List NodeX} {T : List ByteArray} {L : List Int} {inn : Int} {deep : Nat}
theorem lt (h:BldL w base b nv tv lv on ot ol X T L inn deep):b<w.heap.size:=(Array.getElem?_eq_some_iff.1 h.blk).1
theorem fr {fp:Nat→Prop}(h:BldL w base b nv tv lv on ot ol X T L inn deep)(f:Fr fp w w')(h1:¬fp b)(h2:∀k,on=some k→¬fp k)(h3:∀k,ot=some k→¬fp k)(h4:∀k,ol=some k→¬fp k)(h5:∀x∈X,∀k,x.oa=some k→¬fp k):
 BldL w' base b nv tv lv on ot ol X T L inn deep where
 blk:=(f.block b h.lt h1).trans h.blk
 nb:=h.nb
 nodes:=h.nodes.fr f h2
 ok:=fun x hx=>(h.ok x hx).fr f (h5 x hx)
 texts:=h.texts.fr f h3
 lasts:=h.lasts.fr f h4
 bn:=h.bn
 bt:=h.bt
 bl:=h.bl
 ba:=h.ba
theorem same (h:BldL w base b nv tv lv on ot ol X T L inn deep)(f:Fr (fun _=>False) w w'):BldL w' base b nv tv lv on ot ol X T L inn deep:=h.fr f (fun h=>h) (fun _ _ h=>h) (fun _ _ h=>h) (fun _ _ h=>h) (fun _ _ _ _ h=>h)
theorem facts (h:BldL w base b nv tv lv on ot ol X T L inn deep):w.cell? ⟨b,0,none⟩=some nv∧w.cell? ⟨b,1,none⟩=some tv∧w.cell? ⟨b,2,none⟩=some lv∧w.cell? ⟨b,3,none⟩=some (.int .i64 inn)∧w.cell? ⟨b,4,none⟩=some (.int .i64 (deep:Int))∧∀i,w.frozen? ⟨b,i,none⟩=false:=by
 refine⟨?_, ?_, ?_, ?_, ?_,fun i=>frozen_of_row w b i _ _ h.blk⟩
 · rw[cell_of_row w b 0 _ _ _ h.blk];rfl
 · rw[cell_of_row w b 1 _ _ _ h.blk];rfl
 · rw[cell_of_row w b 2 _ _ _ h.blk];rfl
 · rw[cell_of_row w b 3 _ _ _ h.blk];rfl
 · rw[cell_of_row w b 4 _ _ _ h.blk];rfl
theorem inn_ (h:BldL w base b nv tv lv on ot ol X T L inn deep)(i:Int):BldL (w.setCell ⟨b,3,none⟩ (.int .i64 i)) base b nv tv lv on ot ol X T L i deep where
 blk:=heap_setCell_same w b 3 _ _ _ h.blk
 nb:=h.nb
 nodes:=h.nodes.fr (Fr.set_b w b 3 _) (fun k hk=>(h.bn k hk).2)
 ok:=fun x hx=>(h.ok x hx).fr (Fr.set_b w b 3 _) (fun k hk=>(h.ba x hx k hk).2.1)
 texts:=h.texts.fr (Fr.set_b w b 3 _) (fun k hk=>(h.bt k hk).2.1)
 lasts:=h.lasts.fr (Fr.set_b w b 3 _) (fun k hk=>(h.bl k hk).2.1)
 bn:=h.bn
 bt:=h.bt
 bl:=h.bl
 ba:=h.ba
theorem deep_ (h:BldL w base b nv tv lv on ot ol X T L inn deep)(d:Nat):BldL (w.setCell ⟨b,4,none⟩ (.int .i64 (d:Int))) base b nv tv lv on ot ol X T L inn d where
 blk:=heap_setCell_same w b 4 _ _ _ h.blk
 nb:=h.nb
 nodes:=h.nodes.fr (Fr.set_b w b 4 _) (fun k hk=>(h.bn k hk).2)
 ok:=fun x hx=>(h.ok x hx).fr (Fr.set_b w b 4 _) (fun k hk=>(h.ba x hx k hk).2.1)
 texts:=h.texts.fr (Fr.set_b w b 4 _) (fun k hk=>(h.bt k hk).2.1)
 lasts:=h.lasts.fr (Fr.set_b w b 4 _) (fun k hk=>(h.bl k hk).2.1)
 bn:=h.bn
 bt:=h.bt
 bl:=h.bl
 ba:=h.ba
theorem nodes_ {w1:World}{nv':Value}{on':Option Nat}{x:NodeX}(h:BldL w base b nv tv lv on ot ol X T L inn deep)(f:Fr (fun k=>on=some k) w w1)(hown:Own nodeC w1 45 nv' on' (X.map (·.v)++[x.v]))
 (hn:∀k,on'=some k→on=some k∨w.heap.size≤k) (hx:NodeOk w x) (hxa:∀k,x.oa=some k→base≤k∧k≠b∧on≠some k∧ot≠some k∧ol≠some k):
 BldL (w1.setCell ⟨b,0,none⟩ nv') base b nv' tv lv on' ot ol (X++[x]) T L inn deep:=by
 have hbn:¬on=some b:=fun e=>(h.bn b e).2 rfl;have hblk:=(f.block b h.lt hbn).trans h.blk;have hbase:base≤w.heap.size:=Nat.le_trans h.nb (Nat.le_of_lt h.lt)
 have hb':¬on'=some b:=fun e=>by
  rcases hn b e with e|e
  · exact hbn e
  · have:=h.lt;omega
 have far:∀k,k<w.heap.size→on≠some k→on'≠some k:=fun k hk h1 e=>by
  rcases hn k e with e|e
  · exact h1 e
  · omega
 refine⟨heap_setCell_same w1 b 0 _ _ _ hblk,h.nb, ?_, ?_, ?_, ?_, ?_, ?_, ?_, ?_⟩
 · rw[List.map_append];exact hown.fr (Fr.set_b w1 b 0 _) (fun k hk e=>hb' (e ▸ hk))
 · intro y hy
   have:NodeOk w y∧∀k,y.oa=some k→k≠b∧on≠some k:=by
    rcases List.mem_append.1 hy with hy|hy
    · exact⟨h.ok y hy,fun k hk=>⟨(h.ba y hy k hk).2.1,(h.ba y hy k hk).2.2.1⟩⟩
    · rw[List.mem_singleton] at hy;subst hy;exact⟨hx,fun k hk=>⟨(hxa k hk).2.1,(hxa k hk).2.2.1⟩⟩
   exact(this.1.fr f (fun k hk=>(this.2 k hk).2)).fr (Fr.set_b w1 b 0 _) (fun k hk=>(this.2 k hk).1)
 · exact(h.texts.fr f (fun k hk=>(h.bt k hk).2.2)).fr (Fr.set_b w1 b 0 _) (fun k hk=>(h.bt k hk).2.1)
 · exact(h.lasts.fr f (fun k hk=>(h.bl k hk).2.2.1)).fr (Fr.set_b w1 b 0 _) (fun k hk=>(h.bl k hk).2.1)
 · intro k hk;refine⟨?_,fun e=>hb' (e ▸ hk)⟩;rcases hn k hk with e|e
   · exact(h.bn k e).1
   · omega
 · intro k hk;exact⟨(h.bt k hk).1,(h.bt k hk).2.1,far k (h.texts.lt k hk) (h.bt k hk).2.2⟩
 · intro k hk;exact⟨(h.bl k hk).1,(h.bl k hk).2.1,far k (h.lasts.lt k hk) (h.bl k hk).2.2.1,(h.bl k hk).2.2.2⟩
 · intro y hy k hk;rcases List.mem_append.1 hy with hy|hy
   · obtain⟨g1,g2,g3,g4⟩:=h.ba y hy k hk;exact⟨g1,g2,far k ((h.ok y hy).2.lt k hk) g3,g4⟩
   · rw[List.mem_singleton] at hy;subst hy;obtain⟨g1,g2,g3,g4⟩:=hxa k hk;exact⟨g1,g2,far k (hx.2.lt k hk) g3,g4⟩
theorem node_ {g off n cap:Nat}(h:BldL w base b (.slice (some ⟨g,off,none⟩) n cap) tv lv (some g) ot ol X T L inn deep){i j:Nat}(hi:i<X.length)(hj:j<7){u:Value}{x':NodeX}(hx:nodeC.cells x'.v=(nodeC.cells X[i].v).set j u)
 (ho:x'.oa=X[i].oa) (ha:x'.ats=X[i].ats∧x'.v.A=X[i].v.A∧x'.v.m=X[i].v.m∧x'.v.c=X[i].v.c):
 BldL (w.setCell ⟨g,off+(i*7+j),none⟩ u) base b (.slice (some ⟨g,off,none⟩) n cap) tv lv (some g) ot ol (X.set i x') T L inn deep:=by
 have hgb:=h.bn g rfl;have f:=Fr.set_b w g (off+(i*7+j)) u
 have hmem:∀y∈X.set i x',∃z∈X,y.oa=z.oa∧(NodeOk w z→NodeOk w y):=by
  intro y hy;rcases List.mem_or_eq_of_mem_set hy with hy|rfl
  · exact⟨y,hy,rfl,fun h=>h⟩
  · refine⟨X[i],List.getElem_mem hi,ho,fun hz=> ?_⟩;obtain⟨a1,a2,a3,a4⟩:=ha;unfold NodeOk at hz⊢;rw[a1,a2,a3,a4,ho];exact hz
 refine⟨(f.block b h.lt (fun e=>hgb.2 e.symm)).trans h.blk,h.nb, ?_, ?_, ?_, ?_,h.bn,h.bt,h.bl, ?_⟩
 · have:=Own.set1 (x':=x'.v) h.nodes (i:=i) (j:=j) (by simpa using hi) hj (u:=u) (by rw[List.getElem_map];exact hx);rw[List.map_set];exact this
 · intro y hy;obtain⟨z,hz,h1,h2⟩:=hmem y hy;refine(h2 (h.ok z hz)).fr f (fun k hk e=> ?_);rw[h1] at hk;exact(h.ba z hz k hk).2.2.1 (by rw[e])
 · exact h.texts.fr f (fun k hk e=>(h.bt k hk).2.2 (by rw[e]))
 · exact h.lasts.fr f (fun k hk e=>(h.bl k hk).2.2.1 (by rw[e]))
 · intro y hy k hk;obtain⟨z,hz,h1, -⟩:=hmem y hy;rw[h1] at hk;exact h.ba z hz k hk
theorem text_ {g off n cap:Nat}(h:BldL w base b nv (.slice (some ⟨g,off,none⟩) n cap) lv on (some g) ol X T L inn deep){i:Nat}(hi:i<T.length)(s:ByteArray):
 BldL (w.setCell ⟨g,off+(i*1+0),none⟩ (.string s)) base b nv (.slice (some ⟨g,off,none⟩) n cap) lv on (some g) ol X (T.set i s) L inn deep:=by
 have hgb:=h.bt g rfl;have f:=Fr.set_b w g (off+(i*1+0)) (.string s);refine⟨(f.block b h.lt (fun e=>hgb.2.1 e.symm)).trans h.blk,h.nb, ?_, ?_, ?_, ?_,h.bn,h.bt,h.bl,h.ba⟩
 · exact h.nodes.fr f (fun k hk e=>hgb.2.2 (by rw[←e];exact hk))
 · intro y hy;exact(h.ok y hy).fr f (fun k hk e=>(h.ba y hy k hk).2.2.2.1 (by rw[e]))
 · exact Own.set1 (x':=s) h.texts (i:=i) (j:=0) hi (by decide) rfl
 · exact h.lasts.fr f (fun k hk e=>(h.bl k hk).2.2.2 (by rw[e]))
theorem last_ {g off n cap:Nat}(h:BldL w base b nv tv (.slice (some ⟨g,off,none⟩) n cap) on ot (some g) X T L inn deep){i:Nat}(hi:i<L.length)(k:Int):
 BldL (w.setCell ⟨g,off+(i*1+0),none⟩ (.int .i64 k)) base b nv tv (.slice (some ⟨g,off,none⟩) n cap) on ot (some g) X T (L.set i k) inn deep:=by
 have hgb:=h.bl g rfl;have f:=Fr.set_b w g (off+(i*1+0)) (.int .i64 k);refine⟨(f.block b h.lt (fun e=>hgb.2.1 e.symm)).trans h.blk,h.nb, ?_, ?_, ?_, ?_,h.bn,h.bt,h.bl,h.ba⟩
 · exact h.nodes.fr f (fun k hk e=>hgb.2.2.1 (by rw[←e];exact hk))
 · intro y hy;exact(h.ok y hy).fr f (fun k hk e=>(h.ba y hy k hk).2.2.2.2 (by rw[e]))
 · exact h.texts.fr f (fun j hk e=>hgb.2.2.2 (by rw[←e];exact hk))
 · exact Own.set1 (x':=k) h.lasts (i:=i) (j:=0) hi (by decide) rfl
theorem node_at (h:BldL w base b nv tv lv on ot ol X T L inn deep){i:Nat}(hi:i<X.length):∃g off cap,nv=.slice (some ⟨g,off,none⟩) X.length cap∧on=some g∧(∀j,j<7→w.cell? ⟨g,off+(i*7+j),none⟩=(nodeC.cells X[i].v)[j]?)∧∀j,w.frozen? ⟨g,j,none⟩=false:=by obtain⟨g,off,cap,hv, -, -,hg,hc⟩:=h.nodes.rd.at_ (i:=i) (by simpa using hi);rw[List.length_map] at hv;refine⟨g,off,cap,hv,hg,fun j hj=> ?_,fun j=>h.nodes.frozen hv (by rw[hg];simp)⟩;have:=hc j hj;rw[List.getElem_map] at this;exact this
theorem text_at (h:BldL w base b nv tv lv on ot ol X T L inn deep){i:Nat}(hi:i<T.length):∃g off cap,tv=.slice (some ⟨g,off,none⟩) T.length cap∧ot=some g∧w.cell? ⟨g,off+i,none⟩=some (.string T[i])∧∀j,w.frozen? ⟨g,j,none⟩=false:=by obtain⟨g,off,cap,hv, -, -,hg,hc⟩:=h.texts.rd.at_ (i:=i) hi;refine⟨g,off,cap,hv,hg, ?_,fun j=>h.texts.frozen hv (by rw[hg];simp)⟩;have:=hc 0 (by decide);rw[show strT.size=1 from rfl,Nat.mul_one,Nat.add_zero] at this;exact this
theorem last_at (h:BldL w base b nv tv lv on ot ol X T L inn deep){i:Nat}(hi:i<L.length):∃g off cap,lv=.slice (some ⟨g,off,none⟩) L.length cap∧ol=some g∧w.cell? ⟨g,off+i,none⟩=some (.int .i64 L[i])∧∀j,w.frozen? ⟨g,j,none⟩=false:=by obtain⟨g,off,cap,hv, -, -,hg,hc⟩:=h.lasts.rd.at_ (i:=i) hi;refine⟨g,off,cap,hv,hg, ?_,fun j=>h.lasts.frozen hv (by rw[hg];simp)⟩;have:=hc 0 (by decide);rw[show intT.size=1 from rfl,Nat.mul_one,Nat.add_zero] at this;exact this
end BldL
def BldS (w:World)(base b:Nat)(st:BldM):Prop:=∃nv tv lv on ot ol X,BldL w base b nv tv lv on ot ol X st.texts st.lasts st.inn st.deep∧X.map (·.model)=st.nodes
theorem BldS.same {w w':World}{base b:Nat}{st:BldM}(h:BldS w base b st)(f:Fr (fun _=>False) w w'):BldS w' base b st:=by obtain⟨nv,tv,lv,on,ot,ol,X,h1,h2⟩:=h;exact⟨nv,tv,lv,on,ot,ol,X,h1.same f,h2⟩
end Go.Proofs.YtnlacmnoocigiaaGreatDoor
namespace Go.Proofs.YtnlacmnoocigiaaGreatDoor
def PathN (N:List NodeM):Int→Nat→Prop
 |i,0=>i= -1
 |i,d+1=>∃p:Nat,i=p∧∃x,N[p]? =some x∧PathN N x.parent d
theorem PathN.congr {N N':List NodeM}(h:∀(p:Nat) (x:NodeM),N[p]? =some x→∃y,N'[p]? =some y∧y.parent=x.parent):∀{d:Nat} {i:Int},PathN N i d→PathN N' i d
 |0,_,hp=>hp
 |d+1,i,hp=>by obtain⟨p,e,x,hx,hr⟩:=hp;obtain⟨y,hy,he⟩:=h p x hx;exact⟨p,e,y,hy,by rw[he];exact PathN.congr h hr⟩
def SameP (N N':List NodeM):Prop:=∀(p:Nat) (x:NodeM),N[p]? =some x→∃y,N'[p]? =some y∧y.parent=x.parent
theorem SameP.refl (N:List NodeM):SameP N N:=fun _ x h=>⟨x,h,rfl⟩
theorem SameP.trans {A B C:List NodeM}(h:SameP A B)(h':SameP B C):SameP A C:=fun p x hx=>by obtain⟨y,hy,e⟩:=h p x hx;obtain⟨z,hz,e'⟩:=h' p y hy;exact⟨z,hz,e'.trans e⟩
theorem SameP.modify {f:NodeM→NodeM}(hf:∀x,(f x).parent=x.parent)(N:List NodeM)(i:Nat):SameP N (N.modify i f):=fun p x hx=>by
 rw[List.getElem?_modify,hx];by_cases h:i=p
 · exact⟨f x,by simp[h],hf x⟩
 · exact⟨x,by simp[h],rfl⟩
theorem SameP.append (N M:List NodeM):SameP N (N++M):=fun p x hx=>⟨x,by rw[List.getElem?_append_left (List.getElem?_eq_some_iff.1 hx).1];exact hx,rfl⟩
theorem SameP.link (N:List NodeM)(p k:Int)(n:Nat):SameP N (z27 N p k n):=by
 unfold z27;split
 · exact SameP.modify (f:=fstN n) (fun _=>rfl) _ _
 · exact SameP.modify (f:=nxtN n) (fun _=>rfl) _ _
structure Inv (b:BldM):Prop where
 t:b.texts.length=b.nodes.length
 l:b.lasts.length=b.nodes.length
 p:PathN b.nodes b.inn b.deep
 k:∀x∈b.lasts,x= -1∨(0≤x∧x.toNat<b.nodes.length)
 n:b.nodes.length≤4096
 d:b.deep≤64
theorem Inv.init :Inv initM:=⟨rfl,rfl,rfl,fun x hx=>(by cases hx),by decide,by decide⟩
theorem Inv.open_ {b:BldM}(h:Inv b)(hi:b.inn≠ -1):∃p:Nat,b.inn=p∧p<b.nodes.length∧p<b.texts.length∧p<b.lasts.length∧0<b.deep∧PathN b.nodes (z3e b).parent (b.deep - 1):=by
 have hp:=h.p
 cases hd:b.deep with
 |zero=>rw[hd] at hp;exact absurd hp hi
 |succ d=>rw[hd] at hp;obtain⟨p,e,x,hx,hr⟩:=hp;have hl:=(List.getElem?_eq_some_iff.1 hx).1;refine⟨p,e,hl,by rw[h.t];exact hl,by rw[h.l];exact hl,by omega, ?_⟩;unfold z3e;rw[e,Int.toNat_natCast,hx];exact hr
theorem Inv.last {b:BldM}(h:Inv b){p:Nat}(hp:p<b.lasts.length):b.lasts[p]= -1∨(0≤b.lasts[p]∧b.lasts[p].toNat<b.nodes.length):=h.k _ (List.getElem_mem hp)
theorem Inv.opens {b b':BldM}(h:Inv b){x:Tok}(hs:z0n b x=.inl b'):Inv b':=by
 unfold z0n at hs;split at hs
 · cases hs
 · split at hs
   · cases hs
   · rename_i hl;simp only[Sum.inl.injEq] at hs;subst hs;have hn:=h.n;have hd:=h.d
     have hlen:(if b.inn= -1 then b.nodes++[newN x b.inn] else z27 (b.nodes++[newN x b.inn]) b.inn (z2a b) b.nodes.length).length=b.nodes.length+1:=by
      split
      · simp
      · rw[zc5];simp
     have hsame:SameP (b.nodes++[newN x b.inn]) (if b.inn= -1 then b.nodes++[newN x b.inn] else z27 (b.nodes++[newN x b.inn]) b.inn (z2a b) b.nodes.length):=by
      split
      · exact SameP.refl _
      · exact SameP.link _ _ _ _
     refine⟨?_, ?_, ?_, ?_, ?_, ?_⟩
     · simp only[List.length_append,List.length_cons,List.length_nil,h.t];exact hlen.symm
     · show List.length (if b.inn= -1 then b.lasts++[-1] else(b.lasts++[-1]).set b.inn.toNat b.nodes.length)=_;rw[hlen];split<;>simp[h.l]
     · obtain⟨y,hy,he⟩:=hsame b.nodes.length (newN x b.inn) (by rw[List.getElem?_append_right (Nat.le_refl _),Nat.sub_self];rfl);refine⟨b.nodes.length,rfl,y,hy, ?_⟩;rw[he];exact PathN.congr ((SameP.append _ _).trans hsame) h.p
     · intro z hz;simp only[hlen]
       have hz':z∈b.lasts++[-1]∨z=b.nodes.length:=by
        revert hz
        show z∈(if b.inn= -1 then b.lasts++[-1] else(b.lasts++[-1]).set b.inn.toNat (b.nodes.length:Int))→_;split
        · exact fun hz=>.inl hz
        · exact fun hz=>List.mem_or_eq_of_mem_set hz
       rcases hz' with hz|rfl
       · rcases List.mem_append.1 hz with hz|hz
         · rcases h.k z hz with h1|h1
           · exact .inl h1
           · exact .inr ⟨h1.1,by omega⟩
         · rw[List.mem_singleton] at hz;exact .inl hz
       · exact .inr ⟨by omega,by omega⟩
     · show List.length _≤4096;rw[hlen];omega
     · show b.deep+1≤64;omega
theorem Inv.ends {b:BldM}(h:Inv b)(hi:b.inn≠ -1):Inv (z3x b):=by
 obtain⟨p, -, -, -, -, -,hp⟩:=h.open_ hi
 have hs:SameP b.nodes (z3x b).nodes:=by
  unfold z3x;simp only;split
  · exact SameP.refl _
  · exact SameP.modify (f:=txtN (z11 b)) (fun _=>rfl) _ _
 have hl:(z3x b).nodes.length=b.nodes.length:=by unfold z3x;simp only;split<;>simp
 have hd:=h.d;exact⟨by rw[hl];exact h.t,by rw[hl];exact h.l,PathN.congr hs hp,by rw[hl];exact h.k,by rw[hl];exact h.n,by show b.deep - 1≤64;omega⟩
theorem Inv.step {b b':BldM}(h:Inv b){x:Tok}(hs:z1l b x=.inl b'):Inv b':=by
 unfold z1l at hs;split at hs
 · exact h.opens hs
 · split at hs
   · unfold z1r at hs;split at hs
     · cases hs
     · rename_i hn;cases hs;exact h.ends (fun e=>hn (.inl e))
   · split at hs
     · unfold z4r at hs
       cases ho:z0n b x with
       |inr e=>rw[ho] at hs;cases hs
       |inl b2=>
        rw[ho] at hs;cases hs;refine(h.opens ho).ends ?_;unfold z0n at ho;split at ho
        · cases ho
        · split at ho
          · cases ho
          · simp only[Sum.inl.injEq] at ho;subst ho;show (b.nodes.length:Int)≠ -1;omega
     · unfold z6k at hs;split at hs
       · cases hs;exact⟨by simp[h.t],h.l,h.p,h.k,h.n,h.d⟩
       · split at hs
         · cases hs;exact h
         · cases hs
end Go.Proofs.YtnlacmnoocigiaaGreatDoor
namespace Go.Proofs.YtnlacmnoocigiaaGreatDoor
open Go.RowKit Go.Lib
attribute [local go_sem ↓] Go.wp_at_zero Go.wp_at_succ
theorem zdg {st:BldM}{p:Nat}(hp:st.inn=p)(h:p<st.nodes.length):z3e st=st.nodes[p]:=by unfold z3e;rw[hp,Int.toNat_natCast,List.getElem?_eq_getElem h];rfl
theorem z9n {st:BldM}{p:Nat}(hp:st.inn=p)(h:p<st.texts.length):z11 st=st.texts[p]:=by unfold z11;rw[hp,Int.toNat_natCast,List.getElem?_eq_getElem h];rfl
theorem z5e {f:NodeM→NodeM}{X:List NodeX}{p:Nat}{x':NodeX}(h:p<X.length)(hx:x'.model=f X[p].model):(X.set p x').map (·.model)=(X.map (·.model)).modify p f:=by
 apply List.ext_getElem?;intro i;rw[List.map_set,List.getElem?_set,List.getElem?_modify,List.getElem?_map];by_cases hip:p=i
 · subst hip;rw[if_pos rfl,if_pos (by simpa using h),List.getElem?_eq_getElem h,hx];simp
 · rw[if_neg hip];simp[hip]
theorem BldS.drew {w:World}{base b:Nat}{st:BldM}(h:BldS w base b st):BldS w.drew base b st:=h.same (Fr.drew (Fr.refl _ _))
theorem frB {w w1:World}{base b:Nat}(f:Fr (fun _=>False) w w1)(hb:base≤b)(i j:Nat)(u v:Value):Fr (fun k=>base≤k) w ((w1.setCell ⟨b,i,none⟩ u).setCell ⟨b,j,none⟩ v).drew:=(((f.mono (fun _ h=>h.elim)).setCell (p:=⟨b,i,none⟩) (.inl hb) u).setCell (p:=⟨b,j,none⟩) (.inl hb) v).drew
theorem zgx {w1:World}{base b:Nat}{nv tv lv:Value}{on ot ol:Option Nat}{X:List NodeX}{st:BldM}{pa:Int}(B:BldL w1 base b nv tv lv on ot ol X st.texts st.lasts st.inn st.deep)(hX:X.map (·.model)=(z3x st).nodes)(hpa:(z3e st).parent=pa)(hd:0<st.deep):
 BldS ((w1.setCell ⟨b,3,none⟩ (.int .i64 pa)).setCell ⟨b,4,none⟩ (.int .i64 ((st.deep:Int) - 1))).drew base b (z3x st):=by
 have hc:(st.deep:Int) - 1=((st.deep - 1:Nat):Int):=by omega
 rw[hc];refine⟨nv,tv,lv,on,ot,ol,X, ?_,hX⟩;have:=((B.inn_ pa).deep_ (st.deep - 1)).same (Fr.drew (Fr.refl _ _));rw[←hpa] at this⊢;exact this
set_option maxRecDepth 100000 in
set_option maxHeartbeats 4000000 in
theorem zkg (w:World)(base b:Nat)(st:BldM)(hb:BldS w base b st)(iv:Inv st)(hi:st.inn≠ -1)(htz:(z11 st).size≤9223372036854775807):
 Calls Tryz.prog 52 #[.pointer (some ⟨b,0,none⟩)] w fun e w'=>e=.returned (.tuple #[])∧BldS w' base b (z3x st)∧Fr (fun k=>base≤k) w w':=by
 obtain⟨p,hp,hpn,hpT, -,hd0, -⟩:=iv.open_ hi;obtain⟨nv,tv,lv,on,ot,ol,X,B,hX⟩:=hb;have hlen:X.length=st.nodes.length:=by rw[←hX,List.length_map]
 have hpX:p<X.length:=by omega
 obtain⟨g,off,cap,rfl,rfl,hc,hfz⟩:=B.node_at hpX;obtain⟨gt,offt,capt,rfl,rfl,hct,hfzt⟩:=B.text_at hpT;obtain⟨b0,b1,b2,b3,b4,bf⟩:=B.facts;have hnode:z3e st=X[p].model:=by rw[zdg hp hpn];simp only[←hX,List.getElem_map]
 have htext:=z9n hp hpT;rw[htext] at htz;have hbt:z23 (z11 st)=z2f st.texts[p].data.toList:=by rw[htext];rfl
 have hX63:X.length≤9223372036854775807:=by have:=iv.n;omega
 have hT63:st.texts.length≤9223372036854775807:=by have:=iv.n;have:=iv.t;omega
 have hd64:=iv.d;have hpi:(p:Int)<X.length:=by omega
 have hpt:(p:Int)<st.texts.length:=by omega
 have hp0:(0:Int)≤p:=by omega
 have q3:=hc 3 (by decide);have q2:=hc 2 (by decide);rw[hp] at b3;have hlt:=B.lt;have hltg:=B.nodes.lt g rfl;have hltt:=B.texts.lt gt rfl;obtain⟨hbg,hbg2⟩:=B.bn g rfl;obtain⟨hbt1,hbt2,hbt3⟩:=B.bt gt rfl;have HB:=hide B;have HBL:=hide (fun W=>zbt st.texts[p] W htz);have HN:=hide hnode;have HTX:=hide htext;have HX:=hide hX;obtain⟨x,hx⟩:∃x,X[p]=x:=⟨_,rfl⟩;obtain⟨t,ht⟩:∃t,st.texts[p]=t:=⟨_,rfl⟩;have HXP:=hide hx;have HTP:=hide ht;have hbt2':z23 (z11 st)=z2f t.data.toList:=by rw[hbt,ht]
 have HBT:=hide hbt2';rw[hx] at q3 q2;rw[ht] at hct HBL;obtain⟨xv,xo,xa⟩:=x;obtain⟨xn,xA,xm,xc,xt,xpa,xfi,xne,xat⟩:=xv;simp only[nodeC,List.getElem?_cons_zero,List.getElem?_cons_succ,←Nat.add_assoc] at q3 q2;clear B hc hnode htext hX hx ht hbt htz hbt2'
 cases hbl:z2f t.data.toList with
 |true=>
  rw[hbl] at HBL;go_enter Tryz.func52,Tryz.ntmps52;go_wp2_with fail;go_quiet (fail);go_wp2_with fail
  go_region_held3 (fun w'=>w'.cell? ⟨b,1,none⟩=some (.slice (some ⟨gt,offt,none⟩) st.texts.length capt)∧w'.cell? ⟨b,3,none⟩=some (.int .i64 (p:Int))∧w'.cell? ⟨gt,offt+p,none⟩=some (.string t))
   (first|exact⟨b1,b3,hct⟩|exact⟨(f1.cell hlt (fun h=>h)).trans b1,(f1.cell hlt (fun h=>h)).trans b3,(f1.cell hltt (fun h=>h)).trans hct⟩)
   (first|(go_at_call 53;refine(HBL.out _).mono ?_;rintro e w1 ⟨rfl,hf1⟩;have f1:Fr (fun _=>False) w w1:=⟨hf1.os,hf1.tape,hf1.output,hf1.size,hf1.block⟩))
  have c0:=(f1.cell hlt (fun h=>h)).trans b0;have c3:=(f1.cell hlt (fun h=>h)).trans b3;have c4:=(f1.cell hlt (fun h=>h)).trans b4;have cp:=(f1.cell hltg (fun h=>h)).trans q3;have cf:∀i,w1.frozen? ⟨b,i,none⟩=false:=fun i=>(f1.frozen (p:=⟨b,i,none⟩) hlt (fun h=>h)).trans (bf i);have cf3:=cf 3;have cf4:=cf 4;clear b0 b1 b2 b3 b4 bf q3 q2 hct hfz hfzt;go_wp2_with fail;go_region;go_wp2_with fail
  go_end0
  refine⟨rfl,zgx (HB.out.same f1) ?_ (by rw[HN.out,HXP.out];rfl) hd0,frB f1 HB.out.nb _ _ _ _⟩;unfold z3x;simp only;rw[HBT.out,hbl,if_pos rfl,HX.out]
 |false=>
  rw[hbl] at HBL;go_enter Tryz.func52,Tryz.ntmps52;go_wp2_with fail;go_quiet (fail);go_wp2_with fail
  go_region_held3 (fun w'=>w'.cell? ⟨b,1,none⟩=some (.slice (some ⟨gt,offt,none⟩) st.texts.length capt)∧w'.cell? ⟨b,3,none⟩=some (.int .i64 (p:Int))∧w'.cell? ⟨gt,offt+p,none⟩=some (.string t))
   (first|exact⟨b1,b3,hct⟩|exact⟨(f1.cell hlt (fun h=>h)).trans b1,(f1.cell hlt (fun h=>h)).trans b3,(f1.cell hltt (fun h=>h)).trans hct⟩)
   (first|(go_at_call 53;refine(HBL.out _).mono ?_;rintro e w1 ⟨rfl,hf1⟩;have f1:Fr (fun _=>False) w w1:=⟨hf1.os,hf1.tape,hf1.output,hf1.size,hf1.block⟩))
  have c0:=(f1.cell hlt (fun h=>h)).trans b0;have c1:=(f1.cell hlt (fun h=>h)).trans b1;have c3:=(f1.cell hlt (fun h=>h)).trans b3;have ct:=(f1.cell hltt (fun h=>h)).trans hct;have cq2:=(f1.cell hltg (fun h=>h)).trans q2;have cf2:=(f1.frozen (p:=⟨g,off+p*7+2,none⟩) hltg (fun h=>h)).trans (hfz _);have B1:=HB.out.same f1
  have B2:BldL (w1.setCell ⟨g,off+p*7+2,none⟩ (.string t)) base b _ _ lv _ _ ol (X.set p ⟨⟨xn,xA,xm,xc,t,xpa,xfi,xne,xat⟩,xo,xa⟩) st.texts st.lasts st.inn st.deep:=
   B1.node_ hpX (j:=2) (by decide) (u:=.string t) (by rw[HXP.out];rfl) (by rw[HXP.out]) (by rw[HXP.out];exact⟨rfl,rfl,rfl,rfl⟩)
  have F2:=hide (show Fr (fun k=>base≤k) w (w1.setCell ⟨g,off+p*7+2,none⟩ (.string t)) from(f1.mono (fun _ h=>h.elim)).setCell (p:=⟨g,off+p*7+2,none⟩) (.inl hbg) _);obtain⟨e0, -, -,e3,e4,ef⟩:=B2.facts;obtain⟨g',off',cap',hv',hg',hc', -⟩:=B2.node_at (i:=p) (by simpa using hpX);simp only[Option.some.injEq,Value.slice.injEq,Addr.mk.injEq] at hv' hg';obtain⟨⟨rfl,rfl, -⟩, -,rfl⟩:=hv';have e5:=hc' 3 (by decide);rw[List.getElem_set_self] at e5;simp only[nodeC,List.getElem?_cons_zero,List.getElem?_cons_succ,←Nat.add_assoc] at e5;have ef3:=ef 3;have ef4:=ef 4;rw[hp] at e3;have HB2:=hide B2;clear b0 b1 b2 b3 b4 bf q3 q2 hct hfz hfzt B1 B2 hc' hg';go_wp2_with fail;go_region;generalize hW2:w1.setCell ⟨g,off+p*7+2,none⟩ (.string t)=W2 at*;clear c0 c1 c3 ct cq2 cf2 hW2;go_wp2_with fail;go_region;go_wp2_with fail
  go_end0
  refine⟨rfl, ?_, ?_⟩
  · have:=zgx (pa:=xpa) HB2.out (by unfold z3x;simp only;rw[HBT.out,hbl,if_neg (by simp),hp,Int.toNat_natCast,←HX.out,HTX.out,HTP.out];exact z5e hpX (by rw[HXP.out];rfl)) (by rw[HN.out,HXP.out];rfl) hd0;exact this.drew
  · exact((F2.out.setCell (p:=⟨b,3,none⟩) (.inl HB.out.nb) _).setCell (p:=⟨b,4,none⟩) (.inl HB.out.nb) _).drew.drew
end Go.Proofs.YtnlacmnoocigiaaGreatDoor
namespace Go.Proofs.YtnlacmnoocigiaaGreatDoor
open Go.RowKit Go.Lib
attribute [local go_sem ↓] Go.wp_at_zero Go.wp_at_succ
def z10 (w:World)(base b:Nat)(r:BldM ⊕ Int)(e:Ending)(w':World):Prop:=
 match r with
 |.inr er=>e=.returned (.int .i64 er)∧Fr (fun _=>False) w w'
 |.inl st=>e=.returned (.int .i64 0)∧BldS w' base b st∧Fr (fun k=>base≤k) w w'
def tokA (x:Tok)(A:Option Addr)(m c:Nat):Value:=.agg #[.int .u8 (x.kind:Int),.string (bs x.name),.slice A m c,.string (bs x.text),.int .i64 (x.at_:Int)]
set_option maxRecDepth 100000 in
set_option maxHeartbeats 4000000 in
theorem ztm (w:World)(base b:Nat)(st:BldM)(hb:BldS w base b st)(iv:Inv st)(x:Tok)(A:Option Addr)(m c:Nat)(hbw:base≤w.heap.size)(htz:(z11 st).size+x.text.length≤4611686018427387904)(hz:x.text.length≤4611686018427387904):
 Calls Tryz.prog 27 #[.pointer (some ⟨b,0,none⟩),tokA x A m c] w (z10 w base b (z6k st x)):=by
 unfold tokA;generalize (x.kind:Int)=kd;generalize bs x.name=nm;generalize (x.at_:Int)=at_;obtain⟨tx,htx⟩:∃tx,bs x.text=tx:=⟨_,rfl⟩;have htl:tx.data.toList=x.text:=by rw[←htx];simp[bs]
 have htxz:tx.size=x.text.length:=by rw[←htl];rfl
 rw[htx];have hbx:=heap_alloc_new w (.cells #[.int .u8 kd,.string nm,.slice A m c,.string tx,.int .i64 at_] 76);have fa:Fr (fun _=>False) w (w.alloc (.cells #[.int .u8 kd,.string nm,.slice A m c,.string tx,.int .i64 at_] 76)):=Fr.alloc (Fr.refl _ _) _;have hcx:=cell_of_row _ w.heap.size 3 _ _ _ hbx;simp at hcx;by_cases hi:st.inn= -1
 · obtain⟨nv,tv,lv,on,ot,ol,X,B,hX⟩:=hb;obtain⟨b0,b1,b2,b3,b4,bf⟩:=(B.same fa).facts;rw[hi] at b3;have HBL:=hide (fun W=>zbt tx W (by omega))
   cases hbl:z2f tx.data.toList with
   |true=>
    rw[hbl] at HBL;have hres:z6k st x=.inl st:=by unfold z6k;rw[if_neg (by simp[hi]),htx,if_pos (show z23 tx=true from hbl)]
    rw[hres];have HS:=hide (show BldS w base b st from⟨nv,tv,lv,on,ot,ol,X,B,hX⟩);clear b0 b1 b2 b4 bf B hX hres hbx iv;go_enter Tryz.func27,Tryz.ntmps27;go_wp2_with (go_at_call 53;refine(HBL.out _).mono ?_;rintro e w1 ⟨rfl,f1⟩);go_ret;exact⟨rfl,HS.out.same (fa.trans f1),(fa.trans f1).mono (fun _ h=>h.elim)⟩
   |false=>
    rw[hbl] at HBL;have hres:z6k st x=.inr 50:=by unfold z6k;rw[if_neg (by simp[hi]),htx,if_neg (by unfold z23;unfold z2f at hbl;rw[hbl];simp)]
    rw[hres];clear b0 b1 b2 b4 bf B hX hres hbx iv;go_enter Tryz.func27,Tryz.ntmps27;go_wp2_with (go_at_call 53;refine(HBL.out _).mono ?_;rintro e w1 ⟨rfl,f1⟩);go_ret;exact⟨rfl,fa.trans f1⟩
 · obtain⟨p,hp,hpn,hpT, -,hd0, -⟩:=iv.open_ hi;have hres:z6k st x=.inl {st with texts:=st.texts.set p (st.texts[p]++tx)}:=by unfold z6k;rw[if_pos hi,z9n hp hpT,hp,Int.toNat_natCast,htx]
   rw[hres];rw[z9n hp hpT] at htz;obtain⟨nv,tv,lv,on,ot,ol,X,B,hX⟩:=hb;obtain⟨gt,offt,capt,rfl,rfl,hct,hfzt⟩:=(B.same fa).text_at hpT;have HB:=hide (B.same fa);obtain⟨b0,b1,b2,b3,b4,bf⟩:=HB.out.facts;rw[hp] at b3;have hT63:st.texts.length≤9223372036854775807:=by have:=iv.n;have:=iv.t;omega
   have hpt:(p:Int)<st.texts.length:=by omega
   have hp0:(0:Int)≤p:=by omega
   have hbt:=B.bt gt rfl;have hi3:¬(p:Int)= -1:=by omega
   obtain⟨t,ht⟩:∃t,st.texts[p]=t:=⟨_,rfl⟩;have HTP:=hide ht;rw[ht] at hct htz⊢;have z1:t.size≤4611686018427387904:=by omega
   have z2:tx.size≤4611686018427387904:=by omega
   have z3:t.size+tx.size≤4611686018427387904:=by omega
   have hfzp:=hfzt (offt+p);have HX:=hide hX;have HB0:=hide hbt.1;clear b0 b2 b4 bf B hX hres hbx iv ht htz hz hfzt hbt;go_enter Tryz.func27,Tryz.ntmps27;go_wp2_with fail;go_region;go_wp2_with fail;go_ret;refine⟨rfl, ?_, ?_⟩
   · have:=HB.out.text_ (i:=p) hpT (t++tx);simp only[Nat.mul_one,Nat.add_zero] at this;exact BldS.drew ⟨_,_,lv,_,_,ol,X,this,HX.out⟩
   · exact(Fr.setCell (p:=⟨gt,offt+p,none⟩) (fa.mono (fun _ h=>h.elim)) (.inl HB0.out) _).drew
set_option maxRecDepth 100000 in
set_option maxHeartbeats 4000000 in
theorem zm5 (w:World)(base b:Nat)(st:BldM)(hb:BldS w base b st)(iv:Inv st)(x:Tok)(A:Option Addr)(m c:Nat)(htz:(z11 st).size≤4611686018427387904):
 Calls Tryz.prog 25 #[.pointer (some ⟨b,0,none⟩),tokA x A m c] w (z10 w base b (z1r st x)):=by
 unfold tokA;generalize (x.kind:Int)=kd;generalize bs x.text=tx;generalize (x.at_:Int)=at_;obtain⟨nm,hnm⟩:∃nm,bs x.name=nm:=⟨_,rfl⟩;rw[hnm];have hbx:=heap_alloc_new w (.cells #[.int .u8 kd,.string nm,.slice A m c,.string tx,.int .i64 at_] 76);have fa:Fr (fun _=>False) w (w.alloc (.cells #[.int .u8 kd,.string nm,.slice A m c,.string tx,.int .i64 at_] 76)):=Fr.alloc (Fr.refl _ _) _;have hcx:=cell_of_row _ w.heap.size 1 _ _ _ hbx;simp at hcx;by_cases hi:st.inn= -1
 · have hres:z1r st x=.inr 50:=by unfold z1r;rw[if_pos (.inl hi)]
   rw[hres];obtain⟨nv,tv,lv,on,ot,ol,X,B,hX⟩:=hb;obtain⟨b0,b1,b2,b3,b4,bf⟩:=(B.same fa).facts;rw[hi] at b3;have FA:=hide fa;clear b0 b1 b2 b4 bf B hX hres hbx iv fa htz;go_enter Tryz.func25,Tryz.ntmps25;go_wp2_with fail;go_region;go_wp2_with fail;go_ret;exact⟨rfl,FA.out.drew⟩
 · obtain⟨p,hp,hpn,hpT, -,hd0, -⟩:=iv.open_ hi;have hs0:=hb.same fa;obtain⟨nv,tv,lv,on,ot,ol,X,B,hX⟩:=hs0;have hlen:X.length=st.nodes.length:=by rw[←hX,List.length_map]
   have hpX:p<X.length:=by omega
   obtain⟨g,off,cap,rfl,rfl,hc,hfz⟩:=B.node_at hpX;obtain⟨b0,b1,b2,b3,b4,bf⟩:=B.facts;have hname:(z3e st).name=X[p].v.name:=by rw[zdg hp hpn];simp only[←hX,List.getElem_map];rfl
   have q0:=hc 0 (by decide);obtain⟨xn,hxn⟩:∃xn,X[p].v.name=xn:=⟨_,rfl⟩;have q0:(w.alloc (.cells #[.int .u8 kd,.string nm,.slice A m c,.string tx,.int .i64 at_] 76)).cell? ⟨g,off+p*7,none⟩=some (.string xn):=by rw[←hxn];exact q0
   rw[hxn] at hname;rw[hp] at b3;have hX63:X.length≤9223372036854775807:=by have:=iv.n;omega
   have hpt:(p:Int)<X.length:=by omega
   have hp0:(0:Int)≤p:=by omega
   have hi3:((p:Int)== -1)=false:=by rw[beq_eq_false_iff_ne];omega
   by_cases he:xn=nm
   · have hres:z1r st x=.inl (z3x st):=by unfold z1r;rw[hname,he,hnm,if_neg (by rintro(h|h);exact hi h;exact h rfl)]
     rw[hres];subst he;have HE:=hide (fun(W:World) (f:Fr (fun _=>False) w W)=>zkg W base b st (hb.same f) iv hi (by omega));have FA:=hide fa;clear b1 b2 b4 bf B hX hres hbx iv hc hfz hname hxn fa hb htz;go_enter Tryz.func25,Tryz.ntmps25;go_wp2_with fail;go_quiet (fail);go_wp2_with (go_at_call 52;refine(HE.out _ (FA.out.drewN _)).mono ?_;rintro e w1 ⟨rfl,hS,f1⟩);go_ret;exact⟨rfl,hS,((FA.out.mono (fun _ h=>h.elim)).drewN _).trans f1⟩
   · have hres:z1r st x=.inr 50:=by unfold z1r;rw[hname,hnm,if_pos (.inr he)]
     rw[hres];have hne:(xn.toList==nm.toList)=false:=zkf (fun h=>he (ByteArray.ext (Array.toList_inj.1 h)));have FA:=hide fa;clear b1 b2 b4 bf B hX hres hbx iv hc hfz hname hxn fa hb htz he;go_enter Tryz.func25,Tryz.ntmps25;go_wp2_with fail;go_quiet (fail);go_wp2_with fail;go_ret;exact⟨rfl,FA.out.drewN _⟩
end Go.Proofs.YtnlacmnoocigiaaGreatDoor
namespace Go.Proofs.YtnlacmnoocigiaaGreatDoor
open Go.RowKit Go.Lib
attribute [local go_sem ↓] Go.wp_at_zero Go.wp_at_succ
theorem zit (w:World)(x:NodeV)(E:TypeId):Rd nodeC (w.alloc (.cells #[.string x.name,.slice x.A x.m x.c,.string x.text,.int .i64 x.parent,.int .i64 x.first,.int .i64 x.next,.int .i64 x.at_] E)) (fun k=>k=w.heap.size) (.slice (some ⟨w.heap.size,0,none⟩) 1 1) [x]:=by refine⟨_,1,rfl,Nat.le_refl _,by simp[maxLen],fun h=>(by cases h),fun _=>⟨w.heap.size,0,rfl,rfl,fun j u hu=> ?_⟩⟩;rw[cell_of_row _ _ _ _ _ _ (heap_alloc_new w _)];simpa [Cod.flat,nodeC] using hu
theorem z91 {W0 w1:World}{x:Tok}{A1:Option Addr}{c1:Nat}{o1:Option Nat}(own1:Own pairC w1 47 (.slice A1 (z01 x).length c1) o1 (z01 x))(f1:Fr (fun _=>False) W0 w1)(n1:∀k,o1=some k→W0.heap.size≤k)(hl:(z01 x).length≤1000000):
 Calls Tryz.prog 49 #[.slice A1 (z01 x).length c1,.func (.func 50) #[] #[]] w1 fun e w2=>
  e=.returned (.tuple #[])∧Fr (fun _=>False) W0 w2∧(∃L2,Own pairC w2 47 (.slice A1 (z01 x).length c1) o1 L2∧adjA L2=decide (dupA (z01 x))∧(¬dupA (z01 x)→L2=z5f (z01 x))):=
 (ztj _ A1 _ c1 o1 _ w1 own1 hl).mono fun e w2 ⟨he,L2,hp,hs,ho,f2⟩=>
  ⟨he,f1.then_ f2 (fun k hk h=>by have:=n1 k h;omega),L2,ho,zgw hp hs⟩
theorem ziu {p q:Prop}[Decidable p][Decidable q]{α:Type}{a b:α}(h:¬p):(if p∨q then a else b)=if q then a else b:=by
 by_cases hq:q
 · rw[if_pos (.inr hq),if_pos hq]
 · rw[if_neg (fun g=>g.elim h hq),if_neg hq]
structure OpS (w:World)(base b:Nat)(st:BldM)(x:Tok)(A:Option Addr)(c:Nat)(S:Nat→Prop):Prop where
 hb:BldS w base b st
 iv:Inv st
 rd:Rd pairC w S (.slice A (z01 x).length c) (z01 x)
 hS:∀k,S k→k<w.heap.size
 hl:(z01 x).length≤1000000
 bw:base≤w.heap.size
set_option maxRecDepth 100000 in
set_option maxHeartbeats 4000000 in
theorem zpx (w:World)(base b:Nat)(st:BldM)(x:Tok)(A:Option Addr)(c:Nat)(S:Nat→Prop)(h:OpS w base b st x A c S)(er:Int)(hr:z0n st x=.inr er):
 Calls Tryz.prog 24 #[.pointer (some ⟨b,0,none⟩),tokA x A (z01 x).length c] w (z10 w base b (.inr er)):=by
 unfold tokA;have fa:Fr (fun _=>False) w (w.alloc (.cells #[.int .u8 (x.kind:Int),.string (bs x.name),.slice A (z01 x).length c,.string (bs x.text),.int .i64 (x.at_:Int)] 76)):=Fr.alloc (Fr.refl _ _) _;have hbx:=heap_alloc_new w (.cells #[.int .u8 (x.kind:Int),.string (bs x.name),.slice A (z01 x).length c,.string (bs x.text),.int .i64 (x.at_:Int)] 76);have hcx:=cell_of_row _ w.heap.size 2 _ _ _ hbx;simp at hcx;have HCL:=hide (z90 S _ (z01 x) _ (h.rd.fr fa (fun k hk=>⟨h.hS k hk,fun h=>h⟩)) (fun k hk=>Nat.lt_of_lt_of_le (h.hS k hk) fa.size) h.hl);obtain⟨nv,tv,lv,on,ot,ol,X,B,hX⟩:=h.hb;obtain⟨An,cn,hnv, -, -⟩:=B.nodes.form;rw[List.length_map] at hnv;subst hnv;have hlen:X.length=st.nodes.length:=by rw[←hX,List.length_map]
 have hn:=h.iv.n;have FA:=hide fa;have HL:=hide h.hl;have HF:=hide (fun(W:World) (f:Fr (fun _=>False) w W)=>(B.same f).facts)
 have HCALL:=hide (show ∀(W:World) (A1:Option Addr) (c1:Nat) (o1:Option Nat),Own pairC W 47 (.slice A1 (z01 x).length c1) o1 (z01 x)→Fr (fun _=>False) (w.alloc (.cells #[.int .u8 (x.kind:Int),.string (bs x.name),.slice A (z01 x).length c,.string (bs x.text),.int .i64 (x.at_:Int)] 76)) W→(∀k,o1=some k→(w.alloc (.cells #[.int .u8 (x.kind:Int),.string (bs x.name),.slice A (z01 x).length c,.string (bs x.text),.int .i64 (x.at_:Int)] 76)).heap.size≤k)→
  Calls Tryz.prog 49 #[.slice A1 (z01 x).length c1,.func (.func 50) #[] #[]] W fun e w2=>
  e=.returned (.tuple #[])∧Fr (fun _=>False) (w.alloc (.cells #[.int .u8 (x.kind:Int),.string (bs x.name),.slice A (z01 x).length c,.string (bs x.text),.int .i64 (x.at_:Int)] 76)) w2∧(∃L2,Own pairC w2 47 (.slice A1 (z01 x).length c1) o1 L2∧adjA L2=decide (dupA (z01 x))∧(¬dupA (z01 x)→L2=z5f (z01 x))) from
  fun W A1 c1 o1 g1 g2 g3=>z91 g1 g2 g3 HL.out)
 have hX63:(X.length:Int)≤4096:=by omega
 have hd64:=h.iv.d;have hnil:st.nodes=[]↔X.length=0:=by rw[←List.length_eq_zero_iff,hlen]
 unfold z0n at hr;by_cases hA:st.inn= -1∧st.nodes≠[]
 · rw[if_pos (.inl hA)] at hr;obtain rfl:(50:Int)=er:=by cases hr;rfl
   obtain⟨hi,hne⟩:=hA;have hp:(0:Int)<X.length:=by have:X.length≠0:=fun e=>hne (hnil.2 e);omega
   clear hr hne hnil B hX hbx hlen hn;go_enter Tryz.func24,Tryz.ntmps24
   go_wp2_with (first
    |(go_at_call 48;refine HCL.out.mono ?_;rintro e w1 ⟨A1,c1,o1,rfl,own1,f1,n1⟩)
    |(go_at_call 49;refine(HCALL.out _ _ _ _ own1 f1 n1).mono ?_;rintro e w2 ⟨rfl,f2,hL⟩;have HLL:=hide hL;clear hL;obtain⟨b0,b1,b2,b3,b4,bf⟩:=HF.out w2 (FA.out.trans f2);rw[hi] at b3))
   go_ret;exact⟨rfl,FA.out.trans f2⟩
 · rw[ziu hA] at hr
   have hside:(st.inn= -1∧X.length=0)∨(∃p:Nat,st.inn=p):=by
    by_cases hi:st.inn= -1
    · exact .inl ⟨hi,hnil.1 (Decidable.not_not.1 fun hn=>hA ⟨hi,hn⟩)⟩
    · obtain⟨p,hp, -⟩:=h.iv.open_ hi;exact .inr ⟨p,hp⟩
   by_cases hdup:dupA (z01 x)
   · rw[if_pos hdup] at hr;obtain rfl:(50:Int)=er:=by cases hr;rfl
     have HD:=hide hdup;clear hr hA hnil B hX hbx hn hdup;rcases hside with ⟨hi,hz⟩|⟨p,hi⟩
     · have hp:¬(0:Int)<X.length:=by omega
       clear hlen hz;go_enter Tryz.func24,Tryz.ntmps24
       go_wp2_with (first
        |(go_at_call 48;refine HCL.out.mono ?_;rintro e w1 ⟨A1,c1,o1,rfl,own1,f1,n1⟩)
        |(go_at_call 49;refine(HCALL.out _ _ _ _ own1 f1 n1).mono ?_;rintro e w2 ⟨rfl,f2,L2,ho2,ht2,hs2⟩;rw[decide_eq_true HD.out] at ht2;have HTW:=z3w _ _ _ _ L2 w2 ho2.rd ho2.lt;rw[ht2] at HTW;have HTW2:=hide HTW;clear HTW ht2 hs2;obtain⟨b0,b1,b2,b3,b4,bf⟩:=HF.out w2 (FA.out.trans f2);rw[hi] at b3)
        |(go_at_call 51;refine HTW2.out.mono ?_;rintro e w3 ⟨rfl,f3⟩))
       go_ret;exact⟨rfl,(FA.out.trans f2).trans f3⟩
     · have hi3:((p:Int)== -1)=false:=by rw[beq_eq_false_iff_ne];omega
       clear hlen;go_enter Tryz.func24,Tryz.ntmps24
       go_wp2_with (first
        |(go_at_call 48;refine HCL.out.mono ?_;rintro e w1 ⟨A1,c1,o1,rfl,own1,f1,n1⟩)
        |(go_at_call 49;refine(HCALL.out _ _ _ _ own1 f1 n1).mono ?_;rintro e w2 ⟨rfl,f2,L2,ho2,ht2,hs2⟩;rw[decide_eq_true HD.out] at ht2;have HTW:=z3w _ _ _ _ L2 w2 ho2.rd ho2.lt;rw[ht2] at HTW;have HTW2:=hide HTW;clear HTW ht2 hs2;obtain⟨b0,b1,b2,b3,b4,bf⟩:=HF.out w2 (FA.out.trans f2);rw[hi] at b3)
        |(go_at_call 51;refine HTW2.out.mono ?_;rintro e w3 ⟨rfl,f3⟩))
       go_ret;exact⟨rfl,(FA.out.trans f2).trans f3⟩
   · rw[if_neg hdup] at hr;by_cases hlim:st.nodes.length=4096∨st.deep=64
     · rw[if_pos hlim] at hr;obtain rfl:(3:Int)=er:=by cases hr;rfl
       have HD:=hide hdup;rw[←hlen] at hlim
       have hlimI:((X.length:Int)==4096)=true∨(((X.length:Int)==4096)=false∧((st.deep:Int)==64)=true):=by
        by_cases h1:X.length=4096
        · exact .inl (by rw[beq_iff_eq];omega)
        · have:st.deep=64:=hlim.resolve_left h1;exact .inr ⟨by rw[beq_eq_false_iff_ne];omega,by rw[beq_iff_eq];omega⟩
       clear hr hA hnil B hX hbx hn hdup hlim;rcases hside with ⟨hi,hz⟩|⟨p,hi⟩
       · have hp:¬(0:Int)<X.length:=by omega
         have hlimB:((X.length:Int)==4096)=false∧((st.deep:Int)==64)=true:=hlimI.resolve_left (fun e=>by rw[beq_iff_eq] at e;omega);obtain⟨l1,l2⟩:=hlimB;clear hlen hz hlimI;go_enter Tryz.func24,Tryz.ntmps24
         go_wp2_with (first
          |(go_at_call 48;refine HCL.out.mono ?_;rintro e w1 ⟨A1,c1,o1,rfl,own1,f1,n1⟩)
          |(go_at_call 49;refine(HCALL.out _ _ _ _ own1 f1 n1).mono ?_;rintro e w2 ⟨rfl,f2,L2,ho2,ht2,hs2⟩;rw[decide_eq_false HD.out] at ht2;have HTW:=z3w _ _ _ _ L2 w2 ho2.rd ho2.lt;rw[ht2] at HTW;have HTW2:=hide HTW;clear HTW ht2 hs2;obtain⟨b0,b1,b2,b3,b4,bf⟩:=HF.out w2 (FA.out.trans f2);rw[hi] at b3)
          |(go_at_call 51;refine HTW2.out.mono ?_;rintro e w3 ⟨rfl,f3⟩;obtain⟨d0,d1,d2,d3,d4,df⟩:=HF.out w3 ((FA.out.trans f2).trans f3)))
         go_ret;exact⟨rfl,(FA.out.trans f2).trans f3⟩
       · have hi3:((p:Int)== -1)=false:=by rw[beq_eq_false_iff_ne];omega
         clear hlen;rcases hlimI with l1|⟨l1,l2⟩
         all_goals
          go_enter Tryz.func24,Tryz.ntmps24
          go_wp2_with (first
           |(go_at_call 48;refine HCL.out.mono ?_;rintro e w1 ⟨A1,c1,o1,rfl,own1,f1,n1⟩)
           |(go_at_call 49;refine(HCALL.out _ _ _ _ own1 f1 n1).mono ?_;rintro e w2 ⟨rfl,f2,L2,ho2,ht2,hs2⟩;rw[decide_eq_false HD.out] at ht2;have HTW:=z3w _ _ _ _ L2 w2 ho2.rd ho2.lt;rw[ht2] at HTW;have HTW2:=hide HTW;clear HTW ht2 hs2;obtain⟨b0,b1,b2,b3,b4,bf⟩:=HF.out w2 (FA.out.trans f2);rw[hi] at b3)
           |(go_at_call 51;refine HTW2.out.mono ?_;rintro e w3 ⟨rfl,f3⟩;obtain⟨d0,d1,d2,d3,d4,df⟩:=HF.out w3 ((FA.out.trans f2).trans f3)))
          go_ret;exact⟨rfl,(FA.out.trans f2).trans f3⟩
     · rw[if_neg hlim] at hr;cases hr
end Go.Proofs.YtnlacmnoocigiaaGreatDoor
