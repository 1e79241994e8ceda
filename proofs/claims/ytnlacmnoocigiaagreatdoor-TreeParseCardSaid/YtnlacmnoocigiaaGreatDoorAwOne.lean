/- Abstract walks: values and rows by what they hold, not by where they lie; what a state says of a frame and of a world. Over any program. -/
import Derived.Test.YtnlacmnoocigiaaGreatDoorBaseSt
import Derived.Deep.MidRow
import Derived.Handy
import Derived.Great.BuildSlice
namespace Go.Proofs.YtnlacmnoocigiaaGreatDoor.Aw
open Go.RowKit
def Vec (sz:Nat):Type:={l:List Value // l.length=sz∧∀u∈l,u.oneCell'=true}
def vecC (sz:Nat)(h:0<sz):Cod (Vec sz) where
 size:=sz
 cells:=fun x=>x.1
 len:=fun x=>x.2.1
 one:=fun x=>x.2.2
 pos:=h
inductive AV where
 |sc (u:Value)
 |agg (l:List AV)
 |tup (l:List AV)
 |ptr (K off:Nat)
 |sl (K n:Nat)
 |lp (K n i j:Nat)
 |ro (l:List (List AV))
 |rp (l:List AV)
 |fn (f:FuncId) (cap:List AV)
 |dead
instance : Inhabited AV:=⟨.dead⟩
inductive VC (S:Nat→Prop)(w:World):AV→Value→Prop
 |sc (u:Value):VC S w (.sc u) u
 |agg (l:List AV) (vs:List Value):l.length=vs.length→(∀v∈vs,v.oneCell'=true)→(∀(i:Nat) x v,l[i]? =some x→vs[i]? =some v→VC S w x v)→VC S w (.agg l) (.agg vs.toArray)
 |ro (l:List (List AV)) (sz:Nat) (h:0<sz) (cs:List (Vec sz)) (u:Value):Rd (vecC sz h) w S u cs→l.length=cs.length→(∀(i:Nat) (e:List AV),l[i]? =some e→e.length=sz)→
  (∀(i j:Nat) (e:List AV) (c:Vec sz) (x:AV) (v:Value),l[i]? =some e→cs[i]? =some c→e[j]? =some x→c.1[j]? =some v→VC S w x v)→VC S w (.ro l) u
 |rp (l:List AV) (g o:Nat) (vs:List Value):S g→(∀(j:Nat) v,vs[j]? =some v→w.cell? ⟨g,o+j,none⟩=some v)→l.length=vs.length→(∀v∈vs,v.oneCell'=true)→
  (∀(j:Nat) x v,l[j]? =some x→vs[j]? =some v→VC S w x v)→VC S w (.rp l) (.pointer (some ⟨g,o,none⟩))
 |fn (f:FuncId) (l:List AV) (vs:List Value):l.length=vs.length→(∀(i:Nat) x v,l[i]? =some x→vs[i]? =some v→VC S w x v)→VC S w (.fn f l) (.func (.func f) #[] vs.toArray)
 |dead (v:Value):VC S w .dead v
theorem VC.keep {S S':Nat→Prop}{w w':World}(hs:∀k,S k→S' k)(hk:∀k,S k→w'.heap[k]? =w.heap[k]?){x:AV}{v:Value}(h:VC S w x v):VC S' w' x v:=by
 induction h with
 |sc u=>exact .sc u
 |agg l vs hl h1 _ ih=>exact .agg l vs hl h1 ih
 |ro l sz hz cs u hr hl hn _ ih=>exact .ro l sz hz cs u ((hr.keep hk).mono hs) hl hn ih
 |rp l g o vs hg hc hl h1 _ ih=>exact .rp l g o vs (hs g hg) (fun j v hv=>by rw[World.cell?_of_block (w:=w) (hk g hg)];exact hc j v hv) hl h1 ih
 |fn f l vs hl _ ih=>exact .fn f l vs hl ih
 |dead v=>exact .dead v
inductive Row where
 |var (cs:List AV) (e:TypeId)
 |lst (sz:Nat) (l:List (List AV)) (e:TypeId)
 |fro (l:List (List AV))
 |dead
instance : Inhabited Row:=⟨.dead⟩
abbrev Heap :=Nat→Row
def Row.len :Row→Option Nat
 |.lst _ l _=>some l.length
 |.fro l=>some l.length
 |_=>none
structure Itp where
 ρ:Nat→Nat
 hdr:Nat→Value
 ow:Nat→Option Nat
 S:Nat→Prop
inductive VR (I:Itp)(H:Heap)(w:World):AV→Value→Prop
 |cl (x:AV) (v:Value):VC I.S w x v→VR I H w x v
 |agg (l:List AV) (vs:List Value):l.length=vs.length→(∀v∈vs,v.oneCell'=true)→(∀(i:Nat) x v,l[i]? =some x→vs[i]? =some v→VR I H w x v)→VR I H w (.agg l) (.agg vs.toArray)
 |tup (l:List AV) (vs:List Value):l.length=vs.length→(∀(i:Nat) x v,l[i]? =some x→vs[i]? =some v→VR I H w x v)→VR I H w (.tup l) (.tuple vs.toArray)
 |ptr (K off:Nat) (cs:List AV) (e:TypeId):H K=.var cs e→VR I H w (.ptr K off) (.pointer (some ⟨I.ρ K,off,none⟩))
 |sl (K n m:Nat) (v:Value):(H K).len=some m→n≤m→(m=n→v=I.hdr K)→VR I H w (.sl K n) v
 |lp (K n i j m:Nat) (v:Value):(H K).len=some m→n≤m→(∀sz l e,H K=.lst sz l e→l.length=n→∃g off c,I.hdr K=.slice (some ⟨g,off,none⟩) n c∧v=.pointer (some ⟨g,off+(i*sz+j),none⟩))→VR I H w (.lp K n i j) v
 |fn (f:FuncId) (l:List AV) (vs:List Value):l.length=vs.length→(∀(i:Nat) x v,l[i]? =some x→vs[i]? =some v→VR I H w x v)→VR I H w (.fn f l) (.func (.func f) #[] vs.toArray)
 |dead (v:Value):VR I H w .dead v
structure Elems (S:Nat→Prop)(w:World)(sz:Nat)(l:List (List AV))(cs:List (Vec sz)):Prop where
 len:l.length=cs.length
 wide:∀(i:Nat) (e:List AV),l[i]? =some e→e.length=sz
 ok:∀(i j:Nat) (e:List AV) (c:Vec sz) (x:AV) (v:Value),l[i]? =some e→cs[i]? =some c→e[j]? =some x→c.1[j]? =some v→VC S w x v
theorem Elems.keep {S S':Nat→Prop}{w w':World}{sz:Nat}{l:List (List AV)}{cs:List (Vec sz)}(h:Elems S w sz l cs)(hs:∀k,S k→S' k)(hk:∀k,S k→w'.heap[k]? =w.heap[k]?):Elems S' w' sz l cs:=⟨h.len,h.wide,fun i j e c x v h1 h2 h3 h4=>(h.ok i j e c x v h1 h2 h3 h4).keep hs hk⟩
def zho (I:Itp)(H:Heap)(w:World)(K:Nat):Row→Prop
 |.var cs e=>∃vs:List Value,w.heap[I.ρ K]? =some (.cells vs.toArray e (0,0))∧cs.length=vs.length∧(∀v∈vs,v.oneCell'=true)∧∀(i:Nat) x v,cs[i]? =some x→vs[i]? =some v→VR I H w x v
 |.lst sz l e=>∃(h:0<sz) (cs:List (Vec sz)),Own (vecC sz h) w e (I.hdr K) (I.ow K) cs∧Elems I.S w sz l cs
 |.fro l=>VC I.S w (.ro l) (I.hdr K)
 |.dead=>True
def Owns (I:Itp)(H:Heap)(K k:Nat):Prop:=
 match H K with
 |.var _ _=>k=I.ρ K
 |.lst _ _ _=>I.ow K=some k
 |_=>False
structure Bs where
 S:Nat→Prop
 pins:List (Nat×Nat)
instance : CoeFun Bs (fun _=>Nat→Prop):=⟨Bs.S⟩
structure Mem (w0:World)(fp:Nat→Prop)(S0:Bs)(I:Itp)(H:Heap)(w:World):Prop where
 fr:Fr fp w0 w
 rows:∀K,zho I H w K (H K)
 own:∀K k,Owns I H K k→k<w.heap.size∧¬I.S k∧(fp k∨w0.heap.size≤k)
 sep:∀K K' k,Owns I H K k→Owns I H K' k→K=K'
 slt:∀k,I.S k→k<w.heap.size
 s0:∀k,S0 k→I.S k
 snew:∀k,I.S k→S0 k∨w0.heap.size≤k
 pin:∀p∈S0.pins,VR I H w (.ptr p.1 0) (.pointer (some ⟨p.2,0,none⟩))
structure Rel (w0:World)(fp:Nat→Prop)(S0:Bs)(I:Itp)(n:Nat)(E:Nat→AV)(H:Heap)(a:Act)(w:World):Prop where
 mem:Mem w0 fp S0 I H w
 df:a.defers=[]
 size:a.tmps.size=n
 env:∀i v,a.tmps[i]? =some v→VR I H w (E i) v
 out:∀i,n≤i→E i=.dead
def Goes (I I':Itp)(H H':Heap)(K:Nat):Prop:=
 match H K,H' K with
 |.var _ _,.var _ _=>I'.ρ K=I.ρ K
 |.lst sz l _,.lst sz' l' _=>sz'=sz∧l.length≤l'.length∧(l'.length=l.length→I'.hdr K=I.hdr K)
 |.lst _ l _,.fro l'=>l'.length=l.length∧I'.hdr K=I.hdr K
 |.fro l,.fro l'=>l'.length=l.length∧I'.hdr K=I.hdr K
 |.dead,_=>True
 |_,_=>False
theorem VR.keep {I I':Itp}{H H':Heap}{w w':World}(hs:∀k,I.S k→I'.S k)(hk:∀k,I.S k→w'.heap[k]? =w.heap[k]?)(hg:∀K,Goes I I' H H' K){x:AV}{v:Value}(h:VR I H w x v):VR I' H' w' x v:=by
 induction h with
 |cl x v h=>exact .cl x v (h.keep hs hk)
 |agg l vs hl h1 _ ih=>exact .agg l vs hl h1 ih
 |tup l vs hl _ ih=>exact .tup l vs hl ih
 |ptr K off cs e hK=>
  have:=hg K;unfold Goes at this;rw[hK] at this
  cases hK':H' K with
  |var cs' e'=>rw[hK'] at this;rw[←this];exact .ptr K off cs' e' hK'
  |_=>rw[hK'] at this;exact this.elim
 |sl K n m v hm hnm hv=>
  have:=hg K;unfold Goes at this
  cases hK:H K with
  |var=>rw[hK] at hm;cases hm
  |dead=>rw[hK] at hm;cases hm
  |lst sz l e=>
   rw[hK] at hm this;simp only[Row.len,Option.some.injEq] at hm;subst hm
   cases hK':H' K with
   |lst sz' l' e'=>
    rw[hK'] at this;obtain⟨-,h1,h2⟩:=this;refine .sl K n l'.length v (by rw[hK'];rfl) (by omega) (fun e=> ?_);have e1:l'.length=l.length:=by omega
    rw[h2 e1];exact hv (by omega)
   |fro l'=>rw[hK'] at this;obtain⟨h1,h2⟩:=this;exact .sl K n l'.length v (by rw[hK'];rfl) (by omega) (fun e=>by rw[h2];exact hv (by omega))
   |_=>rw[hK'] at this;exact this.elim
  |fro l=>
   rw[hK] at hm this;simp only[Row.len,Option.some.injEq] at hm;subst hm
   cases hK':H' K with
   |fro l'=>rw[hK'] at this;obtain⟨h1,h2⟩:=this;exact .sl K n l'.length v (by rw[hK'];rfl) (by omega) (fun e=>by rw[h2];exact hv (by omega))
   |_=>rw[hK'] at this;exact this.elim
 |lp K n i j m v hm hnl hv=>
  have:=hg K;unfold Goes at this
  cases hK:H K with
  |var=>rw[hK] at hm;cases hm
  |dead=>rw[hK] at hm;cases hm
  |lst sz l e=>
   rw[hK] at hm this;simp only[Row.len,Option.some.injEq] at hm;subst hm
   cases hK':H' K with
   |lst sz' l' e'=>
    rw[hK'] at this;obtain⟨rfl,h1,h2⟩:=this;refine .lp K n i j l'.length v (by rw[hK'];rfl) (by omega) (fun sz2 l2 e2 hh hl2=> ?_);rw[hK'] at hh;cases hh;have e1:l'.length=l.length:=by omega
    rw[h2 e1];exact hv _ l e hK (by omega)
   |fro l'=>rw[hK'] at this;obtain⟨h1,h2⟩:=this;exact .lp K n i j l'.length v (by rw[hK'];rfl) (by omega) (fun sz2 l2 e2 hh hl2=>by rw[hK'] at hh;cases hh)
   |_=>rw[hK'] at this;exact this.elim
  |fro l=>
   rw[hK] at hm this;simp only[Row.len,Option.some.injEq] at hm;subst hm
   cases hK':H' K with
   |fro l'=>rw[hK'] at this;obtain⟨h1,h2⟩:=this;exact .lp K n i j l'.length v (by rw[hK'];rfl) (by omega) (fun sz2 l2 e2 hh hl2=>by rw[hK'] at hh;cases hh)
   |_=>rw[hK'] at this;exact this.elim
 |fn f l vs hl _ ih=>exact .fn f l vs hl ih
 |dead v=>exact .dead v
end Go.Proofs.YtnlacmnoocigiaaGreatDoor.Aw
namespace Go.Proofs.YtnlacmnoocigiaaGreatDoor.Aw
open Go.RowKit
def upd {α:Type}(f:Nat→α)(k:Nat)(x:α):Nat→α:=fun i=>if i=k then x else f i
theorem z0j {α:Type}(f:Nat→α)(k:Nat)(x:α):upd f k x k=x:=if_pos rfl
theorem z6b {α:Type}(f:Nat→α){k i:Nat}(x:α)(h:i≠k):upd f k x i=f i:=if_neg h
section
variable {w0 w w' : World} {fp : Nat → Prop} {S0 : Bs} {I I' : Itp} {H H' : Heap}
theorem Mem.step (h:Mem w0 fp S0 I H w)(T:Nat→Prop)
 (hf:Fr (fun k=>∃K,T K∧Owns I H K k) w w')
 (hs:∀k,I.S k→I'.S k) (hsn:∀k,I'.S k→I.S k∨(k<w'.heap.size∧(w.heap.size≤k∨∃K,T K∧Owns I H K k∧(fp k→S0 k))))
 (hsT:∀k,I'.S k→¬I.S k→∀K,¬T K→¬Owns I H K k)
 (hu:∀K,¬T K→H' K=H K∧I'.ρ K=I.ρ K∧I'.hdr K=I.hdr K∧I'.ow K=I.ow K)
 (hg:∀K,T K→Goes I I' H H' K)
 (hr:(∀{x:AV} {v:Value},VR I H w x v→VR I' H' w' x v)→∀K,T K→zho I' H' w' K (H' K))
 (ho:∀K k,T K→Owns I' H' K k→((∃K2,T K2∧Owns I H K2 k)∨w.heap.size≤k)∧k<w'.heap.size∧¬I'.S k)
 (hsep:∀K K' k,T K→T K'→Owns I' H' K k→Owns I' H' K' k→K=K'):
 Mem w0 fp S0 I' H' w'∧∀{x:AV} {v:Value},VR I H w x v→VR I' H' w' x v:=by
 have hgo:∀K,Goes I I' H H' K:=fun K=>by
  by_cases hT:T K
  · exact hg K hT
  · obtain⟨h1,h2,h3,h4⟩:=hu K hT;unfold Goes;rw[h1,h2,h3];cases H K<;>simp
 have hblk:∀k,I.S k→w'.heap[k]? =w.heap[k]? :=fun k hk=>hf.block k (h.slt k hk) (fun⟨K,_,hK⟩=>(h.own K k hK).2.1 hk);have hvr:∀{x:AV} {v:Value},VR I H w x v→VR I' H' w' x v:=fun hx=>hx.keep hs hblk hgo
 have howu:∀K k,¬T K→Owns I' H' K k→Owns I H K k:=fun K k hT hk=>by
  obtain⟨h1,h2,h3,h4⟩:=hu K hT;unfold Owns at hk⊢;rw[h1] at hk
  cases hK:H K with
  |var=>rw[hK] at hk;simp only at hk⊢;rw[hk,h2]
  |lst=>rw[hK] at hk;simp only at hk⊢;rw[←h4,hk]
  |fro=>rw[hK] at hk;exact hk.elim
  |dead=>rw[hK] at hk;exact hk.elim
 have hbl:∀K k,¬T K→Owns I H K k→w'.heap[k]? =w.heap[k]? :=fun K k hT hk=>hf.block k (h.own K k hk).1 (fun⟨K2,hT2,hK2⟩=>hT (h.sep K K2 k hk hK2 ▸ hT2));refine⟨⟨?_, ?_, ?_, ?_, ?_,fun k hk=>hs k (h.s0 k hk), ?_,fun p hp=>hvr (h.pin p hp)⟩,hvr⟩
 · refine h.fr.then_ hf (fun k hk ⟨K,_,hK⟩=> ?_);rcases (h.own K k hK).2.2 with h1|h1
   · exact h1
   · omega
 · intro K;by_cases hT:T K
   · exact hr hvr K hT
   · obtain⟨h1,h2,h3,h4⟩:=hu K hT;have hrow:=h.rows K;rw[h1]
     cases hK:H K with
     |dead=>trivial
     |fro l=>rw[hK] at hrow;unfold zho at hrow⊢;rw[h3];exact hrow.keep hs hblk
     |var cs e=>rw[hK] at hrow;obtain⟨vs,g1,g2,g3,g4⟩:=hrow;refine⟨vs, ?_,g2,g3,fun i x v hx hv=>hvr (g4 i x v hx hv)⟩;rw[h2];exact(hbl K _ hT (by unfold Owns;rw[hK])).trans g1
     |lst sz l e=>rw[hK] at hrow;obtain⟨hz,cs,g1,g2⟩:=hrow;refine⟨hz,cs, ?_,g2.keep hs hblk⟩;rw[h3,h4];exact g1.keep (fun k hk=>hbl K k hT (by unfold Owns;rw[hK];exact hk))
 · intro K k hk;by_cases hT:T K
   · obtain⟨h1,h2,h3⟩:=ho K k hT hk;refine⟨h2,h3, ?_⟩;rcases h1 with ⟨K2,_,hK2⟩|h1
     · exact(h.own K2 k hK2).2.2
     · exact .inr (Nat.le_trans h.fr.size h1)
   · have hk':=howu K k hT hk;obtain⟨h1,h2,h3⟩:=h.own K k hk';refine⟨Nat.lt_of_lt_of_le h1 hf.size,fun hS=> ?_,h3⟩;exact hsT k hS h2 K hT hk'
 · intro K K' k hk hk';by_cases hT:T K
   · by_cases hT':T K'
     · exact hsep K K' k hT hT' hk hk'
     · have h1:=howu K' k hT' hk';rcases (ho K k hT hk).1 with ⟨K2,hT2,hK2⟩|h2
       · exact absurd (h.sep K' K2 k h1 hK2 ▸ hT2) hT'
       · have:=(h.own K' k h1).1;omega
   · have h1:=howu K k hT hk;by_cases hT':T K'
     · rcases (ho K' k hT' hk').1 with ⟨K2,hT2,hK2⟩|h2
       · exact absurd (h.sep K K2 k h1 hK2 ▸ hT2) hT
       · have:=(h.own K k h1).1;omega
     · exact h.sep K K' k h1 (howu K' k hT' hk')
 · intro k hk;rcases hsn k hk with h1|h1
   · exact Nat.lt_of_lt_of_le (h.slt k h1) hf.size
   · exact h1.1
 · intro k hk;rcases hsn k hk with h1|⟨_,h1|⟨K,_,hK,h2⟩⟩
   · exact h.snew k h1
   · exact .inr (Nat.le_trans h.fr.size h1)
   · rcases (h.own K k hK).2.2 with h3|h3
     · exact .inl (h2 h3)
     · exact .inr h3
theorem Mem.quiet (h:Mem w0 fp S0 I H w)(hf:Fr (fun _=>False) w w'):Mem w0 fp S0 I H w'∧∀{x:AV} {v:Value},VR I H w x v→VR I H w' x v:=h.step (fun _=>False) (hf.mono (fun _ h=>h.elim)) (fun _ h=>h) (fun _ h=>.inl h) (fun k h1 h2=>absurd h1 h2) (fun K _=>⟨rfl,rfl,rfl,rfl⟩) (fun K h=>h.elim) (fun _ K h=>h.elim) (fun K k h=>h.elim) (fun K K' k h=>h.elim)
theorem Mem.box (h:Mem w0 fp S0 I H w){K:Nat}(hK:H K=.dead)(cs:List AV)(vs:List Value)(e:TypeId)(hl:cs.length=vs.length)(h1:∀v∈vs,v.oneCell'=true)(hc:∀(i:Nat) x v,cs[i]? =some x→vs[i]? =some v→VR I H w x v):
 Mem w0 fp S0 {I with ρ:=upd I.ρ K w.heap.size} (upd H K (.var cs e)) (w.alloc (.cells vs.toArray e))∧(∀{x:AV} {v:Value},VR I H w x v→VR {I with ρ:=upd I.ρ K w.heap.size} (upd H K (.var cs e)) (w.alloc (.cells vs.toArray e)) x v)∧
  VR {I with ρ:=upd I.ρ K w.heap.size} (upd H K (.var cs e)) (w.alloc (.cells vs.toArray e)) (.ptr K 0) (.pointer (some ⟨w.heap.size,0,none⟩)):=by
 have key:=h.step (I':={I with ρ:=upd I.ρ K w.heap.size}) (H':=upd H K (.var cs e)) (w':=w.alloc (.cells vs.toArray e)) (fun K'=>K'=K) (Fr.alloc (Fr.refl _ _) _) (fun _ h=>h) (fun _ h=>.inl h) (fun k h1 h2=>absurd h1 h2)
  (fun K' hn=>⟨z6b _ _ hn,z6b _ _ hn,rfl,rfl⟩) (fun K' hT=>by subst hT;unfold Goes;rw[hK];trivial)
  (fun hv K' hT=>by subst hT;rw[z0j];refine⟨vs, ?_,hl,h1,fun i x v hx hvv=>hv (hc i x v hx hvv)⟩;simp only[z0j];exact heap_alloc_new w _)
  (fun K' k hT hk=>by subst hT;unfold Owns at hk;rw[z0j] at hk;simp only[z0j] at hk;subst hk;exact⟨.inr (Nat.le_refl _),by simp,fun hS=>by have:=h.slt _ hS;omega⟩)
  (fun K1 K2 k h1 h2 _ _=>h1.trans h2.symm)
 refine⟨key.1,key.2, ?_⟩;have:=VR.ptr (I:={I with ρ:=upd I.ρ K w.heap.size}) (H:=upd H K (.var cs e)) (w:=w.alloc (.cells vs.toArray e)) K 0 cs e (z0j _ _ _);simpa [z0j] using this
theorem Mem.list (h:Mem w0 fp S0 I H w){K:Nat}(hK:H K=.dead)(hf:Fr (fun _=>False) w w'){sz:Nat}(hz:0<sz){v:Value}{o:Option Nat}{e:TypeId}{cs:List (Vec sz)}{l:List (List AV)}
 (hown:Own (vecC sz hz) w' e v o cs) (hnew:∀k,o=some k→w.heap.size≤k∧k<w'.heap.size) (hel:Elems I.S w sz l cs):
 Mem w0 fp S0 {I with hdr:=upd I.hdr K v,ow:=upd I.ow K o} (upd H K (.lst sz l e)) w'∧(∀{x:AV} {u:Value},VR I H w x u→VR {I with hdr:=upd I.hdr K v,ow:=upd I.ow K o} (upd H K (.lst sz l e)) w' x u)∧
  VR {I with hdr:=upd I.hdr K v,ow:=upd I.ow K o} (upd H K (.lst sz l e)) w' (.sl K l.length) v:=by
 have key:=h.step (I':={I with hdr:=upd I.hdr K v,ow:=upd I.ow K o}) (H':=upd H K (.lst sz l e)) (w':=w') (fun K'=>K'=K) (hf.mono (fun _ h=>h.elim)) (fun _ h=>h) (fun _ h=>.inl h) (fun k h1 h2=>absurd h1 h2)
  (fun K' hn=>⟨z6b _ _ hn,rfl,z6b _ _ hn,z6b _ _ hn⟩) (fun K' hT=>by subst hT;unfold Goes;rw[hK];trivial)
  (fun hv K' hT=>by subst hT;rw[z0j];refine⟨hz,cs, ?_,hel.keep (fun _ h=>h) (fun k hk=>hf.block k (h.slt k hk) (fun h=>h))⟩;simp only[z0j];exact hown)
  (fun K' k hT hk=>by subst hT;unfold Owns at hk;rw[z0j] at hk;simp only[z0j] at hk;obtain⟨h1,h2⟩:=hnew k hk;exact⟨.inr h1,h2,fun hS=>by have:=h.slt _ hS;omega⟩)
  (fun K1 K2 k h1 h2 _ _=>h1.trans h2.symm)
 refine⟨key.1,key.2, ?_⟩;refine VR.sl K l.length l.length v ?_ (Nat.le_refl _) (fun _=> ?_)
 · rw[z0j];rfl
 · simp only[z0j]
theorem Mem.app (h:Mem w0 fp S0 I H w){K:Nat}{sz:Nat}{l l2:List (List AV)}{e:TypeId}(hK:H K=.lst sz l e)(hz:0<sz){v:Value}{o:Option Nat}{cs:List (Vec sz)}
 (hf:Fr (fun k=>I.ow K=some k) w w') (hown:Own (vecC sz hz) w' e v o cs) (hn:∀k,o=some k→I.ow K=some k∨(w.heap.size≤k∧k<w'.heap.size)) (hel:Elems I.S w sz (l++l2) cs) (h0:l2=[]→v=I.hdr K):
 Mem w0 fp S0 {I with hdr:=upd I.hdr K v,ow:=upd I.ow K o} (upd H K (.lst sz (l++l2) e)) w'∧(∀{x:AV} {u:Value},VR I H w x u→VR {I with hdr:=upd I.hdr K v,ow:=upd I.ow K o} (upd H K (.lst sz (l++l2) e)) w' x u)∧
  VR {I with hdr:=upd I.hdr K v,ow:=upd I.ow K o} (upd H K (.lst sz (l++l2) e)) w' (.sl K (l++l2).length) v:=by
 have hO:∀k,I.ow K=some k→Owns I H K k:=fun k hk=>by unfold Owns;rw[hK];exact hk
 have key:=h.step (I':={I with hdr:=upd I.hdr K v,ow:=upd I.ow K o}) (H':=upd H K (.lst sz (l++l2) e)) (w':=w') (fun K'=>K'=K) (hf.mono (fun k hk=>⟨K,rfl,hO k hk⟩)) (fun _ h=>h) (fun _ h=>.inl h) (fun k h1 h2=>absurd h1 h2)
  (fun K' hn=>⟨z6b _ _ hn,rfl,z6b _ _ hn,z6b _ _ hn⟩) (fun K' hT=>by subst hT;unfold Goes;rw[hK,z0j];simp only[z0j];exact⟨trivial,by simp,fun e=>h0 (by simpa using e)⟩)
  (fun hv K' hT=>by subst hT;rw[z0j];refine⟨hz,cs, ?_,hel.keep (fun _ h=>h) (fun k hk=>hf.block k (h.slt k hk) (fun e=>(h.own _ _ (hO k e)).2.1 hk))⟩;simp only[z0j];exact hown)
  (fun K' k hT hk=>by
   subst hT;unfold Owns at hk;rw[z0j] at hk;simp only[z0j] at hk;rcases hn k hk with h1|⟨h1,h2⟩
   · exact⟨.inl ⟨_,rfl,hO k h1⟩,Nat.lt_of_lt_of_le (h.own _ _ (hO k h1)).1 hf.size,(h.own _ _ (hO k h1)).2.1⟩
   · exact⟨.inr h1,h2,fun hS=>by have:=h.slt _ hS;omega⟩)
  (fun K1 K2 k h1 h2 _ _=>h1.trans h2.symm)
 refine⟨key.1,key.2, ?_⟩;refine VR.sl K _ (l++l2).length v ?_ (Nat.le_refl _) (fun _=> ?_)
 · rw[z0j];rfl
 · simp only[z0j]
end
end Go.Proofs.YtnlacmnoocigiaaGreatDoor.Aw
namespace Go.Proofs.YtnlacmnoocigiaaGreatDoor.Aw
open Go.RowKit
def ofV :Value→AV
 |.agg cs=>if cs.toList.all (·.oneCell') then .agg (cs.toList.map .sc) else .sc (.agg cs)
 |.tuple vs=>if vs.size=0 then .sc (.tuple vs) else .tup (vs.toList.map .sc)
 |v=>.sc v
def evA (E:Nat→AV):Operand→AV
 |.tmp t=>E t
 |.const v=>ofV v
 |.global g=>.sc (.pointer (some ⟨g,0,none⟩))
 |.func f=>.sc (.func (.func f) #[] #[])
section
variable {P : Program} {w0 w w' : World} {fp : Nat → Prop} {S0 : Bs} {I I' : Itp} {H H' : Heap} {n : Nat} {E : Nat → AV} {a : Act}
theorem z4j {l:List Value}{i:Nat}{x:AV}{v:Value}(h1:(l.map AV.sc)[i]? =some x)(h2:l[i]? =some v):x=.sc v:=by rw[List.getElem?_map,h2] at h1;exact(Option.some.inj h1).symm
theorem zww (v:Value):VR I H w (ofV v) v:=by
 cases v with
 |agg cs=>
  by_cases h:cs.toList.all (·.oneCell')=true
  · rw[show ofV (.agg cs)=.agg (cs.toList.map .sc) from if_pos h];have h1:∀v∈cs.toList,v.oneCell'=true:=List.all_eq_true.1 h;exact .cl _ _ (VC.agg (S:=I.S) (w:=w) (cs.toList.map .sc) cs.toList (by rw[List.length_map]) h1 (fun i x v h1 h2=>by rw[z4j h1 h2];exact .sc v))
  · rw[show ofV (.agg cs)=.sc (.agg cs) from if_neg h];exact .cl _ _ (.sc _)
 |tuple vs=>
  by_cases h:vs.size=0
  · rw[show ofV (.tuple vs)=.sc (.tuple vs) from if_pos h];exact .cl _ _ (.sc _)
  · rw[show ofV (.tuple vs)=.tup (vs.toList.map .sc) from if_neg h];exact VR.tup (I:=I) (H:=H) (w:=w) (vs.toList.map .sc) vs.toList (by rw[List.length_map]) (fun i x v h1 h2=>by rw[z4j h1 h2];exact .cl _ _ (.sc v))
 |_=>exact .cl _ _ (.sc _)
theorem z2h (h:Rel w0 fp S0 I n E H a w)(x:Operand):VR I H w (evA E x) (a.eval x):=by
 cases x with
 |tmp t=>
  unfold evA Act.eval;by_cases ht:t<a.tmps.size
  · have:=h.env t a.tmps[t] (by simp[ht]);simpa [ht] using this
  · have hs:=h.size;have:E t=.dead:=h.out t (hs ▸ Nat.le_of_not_lt ht);show VR I H w (E t) _;rw[this];exact .dead _
 |const v=>exact zww v
 |global g=>exact .cl _ _ (.sc _)
 |func f=>exact .cl _ _ (.sc _)
theorem VC.sc_inv {S:Nat→Prop}{u v:Value}(h:VC S w (.sc u) v):v=u:=by cases h;rfl
theorem VR.sc_inv {u v:Value}(h:VR I H w (.sc u) v):v=u:=by cases h with|cl _ _ h=>exact h.sc_inv
theorem VR.ro_inv {l:List (List AV)}{v:Value}(h:VR I H w (.ro l) v):VC I.S w (.ro l) v:=by cases h with|cl _ _ h=>exact h
theorem VR.rp_inv {l:List AV}{v:Value}(h:VR I H w (.rp l) v):VC I.S w (.rp l) v:=by cases h with|cl _ _ h=>exact h
theorem VR.ptr_inv {K off:Nat}{v:Value}(h:VR I H w (.ptr K off) v):v=.pointer (some ⟨I.ρ K,off,none⟩)∧∃cs e,H K=.var cs e:=by
 cases h with
 |cl _ _ h=>cases h
 |ptr _ _ cs e h=>exact⟨rfl,cs,e,h⟩
theorem VR.sl_inv {K n:Nat}{v:Value}(h:VR I H w (.sl K n) v):∃m,(H K).len=some m∧n≤m∧(m=n→v=I.hdr K):=by
 cases h with
 |cl _ _ h=>cases h
 |sl _ _ m _ h1 h2 h3=>exact⟨m,h1,h2,h3⟩
theorem VR.lp_inv {K n i j:Nat}{v:Value}(h:VR I H w (.lp K n i j) v):∃m,(H K).len=some m∧n≤m∧(∀sz l e,H K=.lst sz l e→l.length=n→∃g off c,I.hdr K=.slice (some ⟨g,off,none⟩) n c∧v=.pointer (some ⟨g,off+(i*sz+j),none⟩)):=by
 cases h with
 |cl _ _ h=>cases h
 |lp _ _ _ _ m _ h1 h2 h3=>exact⟨m,h1,h2,h3⟩
theorem VR.agg_inv {l:List AV}{v:Value}(h:VR I H w (.agg l) v):∃vs:List Value,v=.agg vs.toArray∧l.length=vs.length∧(∀v∈vs,v.oneCell'=true)∧∀(i:Nat) x v,l[i]? =some x→vs[i]? =some v→VR I H w x v:=by
 cases h with
 |cl _ _ h=>cases h with|agg _ vs h1 h2 h3=>exact⟨vs,rfl,h1,h2,fun i x v a b=>.cl _ _ (h3 i x v a b)⟩
 |agg _ vs h1 h2 h3=>exact⟨vs,rfl,h1,h2,h3⟩
theorem VR.tup_inv {l:List AV}{v:Value}(h:VR I H w (.tup l) v):∃vs:List Value,v=.tuple vs.toArray∧l.length=vs.length∧∀(i:Nat) x v,l[i]? =some x→vs[i]? =some v→VR I H w x v:=by
 cases h with
 |cl _ _ h=>cases h
 |tup _ vs h1 h3=>exact⟨vs,rfl,h1,h3⟩
theorem VR.fn_inv {f:FuncId}{l:List AV}{v:Value}(h:VR I H w (.fn f l) v):∃vs:List Value,v=.func (.func f) #[] vs.toArray∧l.length=vs.length∧∀(i:Nat) x v,l[i]? =some x→vs[i]? =some v→VR I H w x v:=by
 cases h with
 |cl _ _ h=>cases h with|fn _ _ vs h1 h3=>exact⟨vs,rfl,h1,fun i x v a b=>.cl _ _ (h3 i x v a b)⟩
 |fn _ _ vs h1 h3=>exact⟨vs,rfl,h1,h3⟩
def oneP (H:Heap):AV→Prop
 |.sc u=>u.oneCell'=true
 |.ptr _ _|.ro _|.rp _|.fn _ _=>True
 |.sl K n=>(H K).len=some n
 |_=>False
theorem zmp (h:Mem w0 fp S0 I H w){K m:Nat}(hK:(H K).len=some m):∃A c,I.hdr K=.slice A m c:=by
 have hr:=h.rows K
 cases hh:H K with
 |var=>rw[hh] at hK;cases hK
 |dead=>rw[hh] at hK;cases hK
 |lst sz l e=>rw[hh] at hr hK;obtain⟨hz,cs,g1,g2⟩:=hr;simp only[Row.len,Option.some.injEq] at hK;obtain⟨A,c,hv, -, -⟩:=g1.form;exact⟨A,c,by rw[hv,←hK,g2.len]⟩
 |fro l=>
  rw[hh] at hr hK;simp only[Row.len,Option.some.injEq] at hK
  cases hr with
  |ro _ sz hz cs u hrd hl _ _=>obtain⟨A,c,hv, -, -⟩:=hrd.form;exact⟨A,c,by rw[hv,←hK,hl]⟩
theorem zuo (h:Mem w0 fp S0 I H w){x:AV}{v:Value}(h1:oneP H x)(hv:VR I H w x v):v.oneCell'=true:=by
 cases x with
 |sc u=>rw[hv.sc_inv];exact h1
 |ptr K off=>rw[hv.ptr_inv.1];rfl
 |ro l=>
  cases hv.ro_inv with
  |ro _ sz hz cs u hrd hl _ _=>obtain⟨A,c,rfl, -, -⟩:=hrd.form;rfl
 |rp l=>cases hv.rp_inv;rfl
 |fn f l=>obtain⟨vs,rfl, -⟩:=hv.fn_inv;rfl
 |sl K n=>obtain⟨m,g1,g2,g3⟩:=hv.sl_inv;have h1:(H K).len=some n:=h1;rw[g1] at h1;obtain⟨A,c,hh⟩:=zmp h g1;rw[g3 (Option.some.inj h1),hh];rfl
 |agg=>exact h1.elim
 |tup=>exact h1.elim
 |lp=>exact h1.elim
 |dead=>exact h1.elim
def z3r (H:Heap)(x:AV)(K:List AV→Prop):Prop:=
 match x with
 |.agg l=>K l
 |x=>oneP H x∧K [x]
theorem z8c (h:Mem w0 fp S0 I H w){x:AV}{v:Value}{K:List AV→Prop}(hk:z3r H x K)(hv:VR I H w x v):
 ∃(l:List AV) (vs:List Value),K l∧v.cells=vs.toArray∧l.length=vs.length∧(∀v∈vs,v.oneCell'=true)∧(∀(i:Nat) x v,l[i]? =some x→vs[i]? =some v→VR I H w x v):=by
 have single:oneP H x→K [x]→∃(l:List AV) (vs:List Value),K l∧v.cells=vs.toArray∧l.length=vs.length∧(∀v∈vs,v.oneCell'=true)∧(∀(i:Nat) x v,l[i]? =some x→vs[i]? =some v→VR I H w x v):=fun h1 h2=>by
  have ho:=zuo h h1 hv;refine⟨[x],[v],h2, ?_,rfl,by simpa using ho,fun i y u hy hu=> ?_⟩
  · cases v<;>first|rfl|cases ho
  · cases i with
    |zero=>simp at hy hu;subst hy;subst hu;exact hv
    |succ i=>simp at hy
 cases x with
 |agg l=>obtain⟨vs,rfl,g1,g2,g3⟩:=hv.agg_inv;exact⟨l,vs,hk,rfl,g1,g2,g3⟩
 |_=>exact single hk.1 hk.2
end
end Go.Proofs.YtnlacmnoocigiaaGreatDoor.Aw
namespace Go.Proofs.YtnlacmnoocigiaaGreatDoor.Aw
open Go.RowKit
def at_ (l:List (List AV))(i:Nat):List AV:=l.getD i []
theorem zwx {α:Type}{f:α→List AV}{l:List α}{i:Nat}(h:i<l.length):at_ (l.map f) i=f l[i]:=by unfold at_;rw[List.getD_eq_getElem?_getD,List.getElem?_map,List.getElem?_eq_getElem h];rfl
theorem z9y {l:List (List AV)}{i:Nat}(h:i<l.length):l[i]? =some (at_ l i):=by unfold at_;rw[List.getD_eq_getElem?_getD,List.getElem?_eq_getElem h];rfl
def byteAt (s:ByteArray)(i:Nat):Int:=((s.data.toList.getD i 0).toNat:Int)
def z1o (P:Program)(t:TypeId):Option (Option Nat):=
 match P.underlying t,P.info? t with
 |some d,some i=>some (if d.isRow then some i.size else none)
 |_,_=>none
def z02 (P:Program)(s:TypeId)(f:Nat):Option Nat:=
 match P.underlying s with
 |some (.struct fs)=>match fs[f]? with
  |some fd=>match P.info? fd.type with
   |some i=>if i.size=0 then none else some fd.offset
   |none=>none
  |none=>none
 |_=>none
def z0m (P:Program)(t:TypeId):Option (Option Nat×Nat):=
 match P.underlying t with
 |some (.slice e)=>(P.info? e).map fun i=>(none,i.size)
 |some (.array n e)=>(P.info? e).map fun i=>(some n,i.size)
 |_=>none
def zdo (P:Program)(t:TypeId)(f:Nat):Option (Nat×TypeId):=
 match P.underlying t with
 |some (.struct fs)=>(fs[f]?).map fun fd=>(fd.offset,fd.type)
 |_=>none
def zdp (P:Program)(t:TypeId):Option (Nat×TypeId×Nat):=
 match P.underlying t with
 |some (.array n e)=>(P.info? e).map fun i=>(n,e,i.size)
 |_=>none
def z3s (P:Program)(t:TypeId):Bool:=match P.underlying t with|some .string=>true|_=>false
def zf6 (P:Program)(t:TypeId):Bool:=match P.underlying t with|some .bool=>true|_=>false
def zau (P:Program)(t:TypeId):Option IntKind:=match P.underlying t with|some (.int k)=>some k|_=>none
def placeW (H:Heap)(x:AV)(K:List AV→Prop):Prop:=
 match x with
 |.ptr K' off=>match H K' with
  |.var cs _=>K (cs.drop off)
  |_=>False
 |.rp l=>K l
 |.lp K' n i j=>match H K' with
  |.lst _ l _=>l.length=n∧i<l.length∧K ((at_ l i).drop j)
  |_=>False
 |_=>False
def z6m (P:Program)(t:TypeId)(cs:List AV)(K:AV→Prop):Prop:=
 match z1o P t with
 |some (some s)=>s≤cs.length∧K (.agg (cs.take s))
 |some none=>match cs with
  |c::_=>K c
  |[]=>False
 |none=>False
section
variable {P : Program} {w0 w w' : World} {fp : Nat → Prop} {S0 : Bs} {I I' : Itp} {H H' : Heap} {n : Nat} {E : Nat → AV} {a : Act}
theorem zf7 (h:Mem w0 fp S0 I H w){x:AV}{v:Value}{K:List AV→Prop}(hk:placeW H x K)(hv:VR I H w x v):
 ∃(cs:List AV) (g o:Nat) (vs:List Value),K cs∧v=.pointer (some ⟨g,o,none⟩)∧w.rangeAt g o vs∧cs.length=vs.length∧(∀v∈vs,v.oneCell'=true)∧∀(i:Nat) x v,cs[i]? =some x→vs[i]? =some v→VR I H w x v:=by
 cases x with
 |ptr K' off=>
  obtain⟨rfl,cs,e,hK⟩:=hv.ptr_inv;have hr:=h.rows K';rw[hK] at hr;obtain⟨vs,g1,g2,g3,g4⟩:=hr;unfold placeW at hk;simp only[hK] at hk;refine⟨cs.drop off,I.ρ K',off,vs.drop off,hk,rfl,fun j v hj=> ?_,by simp[g2],fun v hv=>g3 v (List.mem_of_mem_drop hv),fun i x v h1 h2=> ?_⟩
  · rw[List.getElem?_drop] at hj;rw[cell_of_row w (I.ρ K') (off+j) _ e (0,0) g1];simpa using hj
  · rw[List.getElem?_drop] at h1 h2;exact g4 _ x v h1 h2
 |rp l=>
  cases hv.rp_inv with
  |rp _ g o vs g1 g2 g3 g4 g5=>exact⟨l,g,o,vs,hk,rfl,g2,g3,g4,fun i x v h1 h2=>.cl _ _ (g5 i x v h1 h2)⟩
 |lp K' n i j=>
  obtain⟨m,q1,q2,q3⟩:=hv.lp_inv;unfold placeW at hk
  cases hK:H K' with
  |lst sz l e=>
   simp only[hK] at hk;obtain⟨k1,k2,k3⟩:=hk;obtain⟨g,off,c,hh,rfl⟩:=q3 sz l e hK k1;have hr:=h.rows K';rw[hK] at hr;obtain⟨hz,cs,g1,g2⟩:=hr;have hi:i<cs.length:=by rw[←g2.len];exact k2
   obtain⟨g',off',cap,hv', -, -, -,hc⟩:=g1.rd.at_ hi;rw[hh] at hv';simp only[Value.slice.injEq,Option.some.injEq,Addr.mk.injEq] at hv';obtain⟨⟨rfl,rfl, -⟩, -, -⟩:=hv';have hL:=g2.wide i _ (z9y k2);have hC:cs[i].1.length=sz:=cs[i].2.1;refine⟨(at_ l i).drop j,g,off+(i*sz+j),cs[i].1.drop j,k3,rfl,fun q v hq=> ?_,by simp[hL,hC],fun v hv=>cs[i].2.2 v (List.mem_of_mem_drop hv),fun q x v h1 h2=> ?_⟩
   · rw[List.getElem?_drop] at hq;have hlt:j+q<sz:=by rw[←hC];exact(List.getElem?_eq_some_iff.1 hq).1
     have:=hc (j+q) hlt;rw[show off+(i*sz+j)+q=off+(i*(vecC sz hz).size+(j+q)) from by show _=off+(i*sz+(j+q));omega,this];exact hq
   · rw[List.getElem?_drop] at h1 h2;exact .cl _ _ (g2.ok i (j+q) _ cs[i] x v (z9y k2) (List.getElem?_eq_getElem hi) h1 h2)
  |_=>simp only[hK] at hk
 |_=>exact hk.elim
theorem zch (w:World)(g o:Nat)(t:TypeId)(v:Value)(d:TypeDesc)(hc:w.cell? ⟨g,o,none⟩=some v)(hu:P.underlying t=some d)(hd:d.isRow=false):
 (Instr.loadAt t (.pointer (some ⟨g,o,none⟩))).run P w=.ok v w:=by
 have hagg:(isAgg t).run P w=.ok false w:=by unfold isAgg;rw[Sem.run_bind,run_underlying hu w];cases d<;>simp_all
 simp[Instr.loadAt,Instr.sureAddr,loadVar,Sem.run_bind,hagg,load,Sem.run,hc]
theorem zj8 {t:TypeId}{cs:List AV}{g o:Nat}{vs:List Value}{K:AV→Prop}(hk:z6m P t cs K)(hr:w.rangeAt g o vs)(hl:cs.length=vs.length)(h1:∀v∈vs,v.oneCell'=true)(hv:∀(i:Nat) x v,cs[i]? =some x→vs[i]? =some v→VR I H w x v):
 ∃x v,K x∧(Instr.loadAt t (.pointer (some ⟨g,o,none⟩))).run P w=.ok v w∧VR I H w x v:=by
 unfold z6m z1o at hk
 cases hu:P.underlying t with
 |none=>simp[hu] at hk
 |some d=>
  cases hi:P.info? t with
  |none=>simp[hu,hi] at hk
  |some i=>
   simp only[hu,hi] at hk;by_cases hd:d.isRow=true
   · rw[if_pos hd] at hk;simp only at hk;obtain⟨k1,k2⟩:=hk;refine⟨_,.agg (vs.take i.size).toArray,k2, ?_,.agg _ _ (by simp[hl]) (fun v hv=>h1 v (List.mem_of_mem_take hv)) (fun q x v g1 g2=> ?_)⟩
     · exact run_loadAt_mid w g o t (vs.take i.size) d (fun j v hj=>by
        rw[List.getElem?_take] at hj;split at hj
        · exact hr j v hj
        · cases hj) hu hd (by simp[hi];omega)
     · rw[List.getElem?_take] at g1 g2;split at g1
       · rename_i hq;rw[if_pos hq] at g2;exact hv q x v g1 g2
       · cases g1
   · rw[if_neg hd] at hk;simp only at hk
     cases cs with
     |nil=>exact hk.elim
     |cons c cs=>
      simp only at hk
      cases vs with
      |nil=>simp at hl
      |cons v vs=>exact⟨c,v,hk,zch w g o t v d (by simpa using hr 0 v rfl) hu (by simpa using hd),hv 0 c v rfl rfl⟩
theorem zky {x:AV}{K:List AV→Prop}(h:placeW H x K):∃cs,K cs∧placeW H x (· =cs):=by
 unfold placeW at*
 cases x with
 |ptr K' off=>cases hK:H K'<;>simp only[hK] at h⊢<;>first|exact h.elim|exact⟨_,h,rfl⟩
 |rp l=>exact⟨_,h,rfl⟩
 |lp K' n i j=>cases hK:H K'<;>simp only[hK] at h⊢<;>first|exact h.elim|exact⟨_,h.2.2,h.1,h.2.1,rfl⟩
 |_=>exact h.elim
theorem zav {t:TypeId}{cs:List AV}{K:AV→Prop}(h:z6m P t cs K):∃x,K x∧z6m P t cs (· =x):=by
 unfold z6m at*
 cases hr:z1o P t with
 |none=>simp only[hr] at h
 |some s=>
  cases s with
  |some s=>simp only[hr] at h⊢;exact⟨_,h.2,h.1,rfl⟩
  |none=>
   simp only[hr] at h⊢
   cases cs with
   |nil=>exact h.elim
   |cons c cs=>exact⟨_,h,rfl⟩
def z17 (P:Program)(H:Heap)(s:TypeId)(f:Nat)(x:AV)(K:AV→Prop):Prop:=
 match z02 P s f with
 |none=>False
 |some fo=>match x with
  |.ptr K' o=>K (.ptr K' (o+fo))
  |.rp l=>K (.rp (l.drop fo))
  |.lp K' n i j=>match H K' with
   |.lst _ l _=>l.length=n∧K (.lp K' n i (j+fo))
   |_=>False
  |_=>False
def idxW (i:Int)(len:Nat)(K:Nat→Prop):Prop:=0≤i∧i<len∧K i.toNat
def z18 (P:Program)(H:Heap)(t:TypeId)(x ix:AV)(K:AV→Prop):Prop:=
 match ix with
 |.sc (.int _ i)=>match z0m P t with
  |some (none,s)=>match x with
   |.ro l=>idxW i l.length fun q=>(at_ l q).length=s∧K (.rp (at_ l q))
   |.sl K' n=>match H K' with
    |.lst sz l _=>l.length=n∧sz=s∧idxW i n fun q=>K (.lp K' n q 0)
    |.fro l=>l.length=n∧idxW i n fun q=>(at_ l q).length=s∧K (.rp (at_ l q))
    |_=>False
   |_=>False
  |some (some len,s)=>match x with
   |.ptr K' o=>idxW i len fun q=>K (.ptr K' (o+q*s))
   |.rp l=>idxW i len fun q=>K (.rp (l.drop (q*s)))
   |_=>False
  |none=>False
 |_=>False
theorem zci {s:TypeId}{f:Nat}{x:AV}{K:AV→Prop}(h:z17 P H s f x K):∃r,K r∧z17 P H s f x (· =r):=by
 unfold z17 at*
 cases hf:z02 P s f with
 |none=>simp only[hf] at h
 |some fo=>
  simp only[hf] at h⊢
  cases x with
  |ptr=>exact⟨_,h,rfl⟩
  |rp=>exact⟨_,h,rfl⟩
  |lp K' n i j=>cases hK:H K'<;>simp only[hK] at h⊢<;>first|exact h.elim|exact⟨_,h.2,h.1,rfl⟩
  |_=>exact h.elim
theorem zcj {t:TypeId}{x ix:AV}{K:AV→Prop}(h:z18 P H t x ix K):∃r,K r∧z18 P H t x ix (· =r):=by
 unfold z18 at*;split at h<;>try exact h.elim
 rename_i k i;split at h<;>try exact h.elim
 · rename_i s hs;simp only[hs];split at h<;>try exact h.elim
   · exact⟨_,h.2.2.2,h.1,h.2.1,h.2.2.1,rfl⟩
   · rename_i K' n;cases hK:H K'<;>simp only[hK] at h⊢<;>first|exact h.elim|skip
     · exact⟨_,h.2.2.2.2,h.1,h.2.1,h.2.2.1,h.2.2.2.1,rfl⟩
     · exact⟨_,h.2.2.2.2,h.1,h.2.1,h.2.2.1,h.2.2.2.1,rfl⟩
 · rename_i len s hs;simp only[hs];split at h<;>try exact h.elim
   · exact⟨_,h.2.2,h.1,h.2.1,rfl⟩
   · exact⟨_,h.2.2,h.1,h.2.1,rfl⟩
theorem VC.rp_drop {S:Nat→Prop}{l:List AV}{g o:Nat}(h:VC S w (.rp l) (.pointer (some ⟨g,o,none⟩)))(d:Nat):VC S w (.rp (l.drop d)) (.pointer (some ⟨g,o+d,none⟩)):=by
 cases h with
 |rp _ g o vs g1 g2 g3 g4 g5=>
  refine .rp _ g (o+d) (vs.drop d) g1 (fun j v hj=> ?_) (by simp[g3]) (fun v hv=>g4 v (List.mem_of_mem_drop hv)) (fun j x v h1 h2=> ?_)
  · rw[List.getElem?_drop] at hj;rw[show o+d+j=o+(d+j) from by omega];exact g2 _ v hj
  · rw[List.getElem?_drop] at h1 h2;exact g5 _ x v h1 h2
theorem zhp {S:Nat→Prop}{l:List AV}{v:Value}(h:VC S w (.rp l) v):∃g o,v=.pointer (some ⟨g,o,none⟩):=by cases h with|rp _ g o=>exact⟨g,o,rfl⟩
theorem z7t (w:World)(s:TypeId)(f fo g o:Nat)(hf:z02 P s f=some fo):(Instr.fieldAt s (.pointer (some ⟨g,o,none⟩)) f).run P w=.ok (.pointer (some ⟨g,o+fo,none⟩)) w:=by
 unfold z02 at hf
 cases hu:P.underlying s with
 |none=>simp[hu] at hf
 |some d=>
  cases d with
  |struct fs=>
   simp only[hu] at hf
   cases hfd:fs[f]? with
   |none=>simp[hfd] at hf
   |some fd=>
    simp only[hfd] at hf
    cases hi:P.info? fd.type with
    |none=>simp[hi] at hf
    |some i=>
     simp only[hi] at hf;split at hf
     · cases hf
     · rename_i h0;cases hf;simp[Instr.fieldAt,Sem.run_bind,run_underlying hu,hfd,Instr.sureAddr,fieldPlace,sizeOf,typeInfo,hi,h0,Addr.add_mid]
  |_=>simp[hu] at hf
theorem zdq (h:Mem w0 fp S0 I H w){s:TypeId}{f:Nat}{x r:AV}{v:Value}(hk:z17 P H s f x (· =r))(hx:VR I H w x v):
 ∃u,(Instr.fieldAt s v f).run P w=.ok u w∧VR I H w r u:=by
 unfold z17 at hk
 cases hf:z02 P s f with
 |none=>simp only[hf] at hk
 |some fo=>
  simp only[hf] at hk
  cases x with
  |ptr K' o=>simp only at hk;subst hk;obtain⟨rfl,cs,e,hK⟩:=hx.ptr_inv;exact⟨_,z7t w s f fo _ _ hf,.ptr K' _ cs e hK⟩
  |rp l=>simp only at hk;subst hk;obtain⟨g,o,rfl⟩:=zhp hx.rp_inv;exact⟨_,z7t w s f fo _ _ hf,.cl _ _ (hx.rp_inv.rp_drop fo)⟩
  |lp K' n i j=>
   obtain⟨m,q1,q2,q3⟩:=hx.lp_inv
   cases hK:H K' with
   |lst sz l e=>simp only[hK] at hk;obtain⟨hl,rfl⟩:=hk;obtain⟨g,off,c,hh,rfl⟩:=q3 sz l e hK hl;refine⟨_,z7t w s f fo _ _ hf,.lp K' n i _ m _ q1 q2 (fun sz' l' e' hK' hl'=> ?_)⟩;rw[hK] at hK';cases hK';exact⟨g,off,c,hh,by simp only[Value.pointer.injEq,Option.some.injEq,Addr.mk.injEq,true_and,and_true];omega⟩
   |_=>simp only[hK] at hk
  |_=>exact hk.elim
theorem z2k (w:World){t:TypeId}{s:Nat}(ht:z0m P t=some (none,s))(g o len c:Nat)(k:IntKind)(i:Int)(h0:0≤i)(h1:i<len):
 (Instr.indexAt t (.slice (some ⟨g,o,none⟩) len c) (.int k i)).run P w=.ok (.pointer (some ⟨g,o+i.toNat*s,none⟩)) w:=by
 unfold z0m at ht
 cases hu:P.underlying t with
 |none=>simp[hu] at ht
 |some d=>
  cases d<;>simp only[hu] at ht<;>try (cases ht;done)
  · rename_i e
    cases hi:P.info? e with
    |none=>simp[hi] at ht
    |some i2=>simp only[hi,Option.map_some,Option.some.injEq,Prod.mk.injEq,true_and] at ht;subst ht;simp[Instr.indexAt,asIntOf,Sem.run_bind,run_underlying hu,sizeOf,typeInfo,hi,h0,h1,Addr.add_mid]
  · rename_i m e;cases hi:P.info? e<;>simp[hi] at ht
theorem z42 (w:World){t:TypeId}{s len:Nat}(ht:z0m P t=some (some len,s))(g o:Nat)(k:IntKind)(i:Int)(h0:0≤i)(h1:i<len):
 (Instr.indexAt t (.pointer (some ⟨g,o,none⟩)) (.int k i)).run P w=.ok (.pointer (some ⟨g,o+i.toNat*s,none⟩)) w:=by
 unfold z0m at ht
 cases hu:P.underlying t with
 |none=>simp[hu] at ht
 |some d=>
  cases d<;>simp only[hu] at ht<;>try (cases ht;done)
  · rename_i e;cases hi:P.info? e<;>simp[hi] at ht
  · rename_i m e
    cases hi:P.info? e with
    |none=>simp[hi] at ht
    |some i2=>simp only[hi,Option.map_some,Option.some.injEq,Prod.mk.injEq] at ht;obtain⟨rfl,rfl⟩:=ht;simp[Instr.indexAt,asIntOf,Sem.run_bind,run_underlying hu,sizeOf,typeInfo,hi,h0,h1,Instr.sureAddr,Addr.add_mid]
theorem zmq {S:Nat→Prop}{l:List (List AV)}{v:Value}(h:VC S w (.ro l) v){q:Nat}(hq:q<l.length):∃g o c,v=.slice (some ⟨g,o,none⟩) l.length c∧VC S w (.rp (at_ l q)) (.pointer (some ⟨g,o+q*(at_ l q).length,none⟩)):=by
 cases h with
 |ro _ sz hz cs u hrd hl hw hc=>
  have hq':q<cs.length:=by omega
  obtain⟨g,off,cap,hv, -, -,hS,hcell⟩:=hrd.at_ hq';refine⟨g,off,cap,by rw[hv,hl], ?_⟩;have hsz:=hw q _ (z9y hq);rw[hsz];have hC:cs[q].1.length=sz:=cs[q].2.1
  exact .rp _ g _ cs[q].1 hS (fun j v hj=>by
   have hlt:j<sz:=by rw[←hC];exact(List.getElem?_eq_some_iff.1 hj).1
   have:=hcell j hlt;rw[show off+q*sz+j=off+(q*(vecC sz hz).size+j) from by show _=off+(q*sz+j);omega,this];exact hj) (by rw[hsz,hC]) cs[q].2.2 (fun j x v h1 h2=>hc q j _ cs[q] x v (z9y hq) (List.getElem?_eq_getElem hq') h1 h2)
theorem zdr (h:Mem w0 fp S0 I H w){t:TypeId}{x ix r:AV}{v vi:Value}(hk:z18 P H t x ix (· =r))(hx:VR I H w x v)(hi:VR I H w ix vi):
 ∃u,(Instr.indexAt t v vi).run P w=.ok u w∧VR I H w r u:=by
 unfold z18 at hk;split at hk<;>try exact hk.elim
 rename_i k i;rw[hi.sc_inv];split at hk<;>try exact hk.elim
 · rename_i s hs;split at hk<;>try exact hk.elim
   · rename_i l;obtain⟨h0,h1,h2,rfl⟩:=hk;have hq:i.toNat<l.length:=by omega
     obtain⟨g,o,c,rfl,hrp⟩:=zmq hx.ro_inv hq;rw[h2] at hrp;exact⟨_,z2k w hs g o _ c k i h0 h1,.cl _ _ hrp⟩
   · rename_i K' n;obtain⟨m,q1,q2,q3⟩:=hx.sl_inv
     cases hK:H K' with
     |lst sz l e=>simp only[hK] at hk;obtain⟨hl,rfl,h0,h1,rfl⟩:=hk;rw[hK] at q1;simp only[Row.len,Option.some.injEq] at q1;have hv:=q3 (by omega);have hr:=h.rows K';rw[hK] at hr;obtain⟨hz,cs,g1,g2⟩:=hr;have hlen:=g2.len;obtain⟨g,off,cap,hh, -, -, -, -⟩:=g1.rd.at_ (i:=i.toNat) (by omega);rw[hv,hh,←hlen,hl];refine⟨_,z2k w hs g off n cap k i h0 h1,.lp K' n _ _ m _ (by rw[hK,←q1];rfl) q2 (fun sz' l' e' hK' hl'=> ?_)⟩;rw[hK] at hK';cases hK';exact⟨g,off,cap,by rw[hh,←hlen,hl],by rw[Nat.add_zero]⟩
     |fro l=>simp only[hK] at hk;obtain⟨hl,h0,h1,h2,rfl⟩:=hk;rw[hK] at q1;simp only[Row.len,Option.some.injEq] at q1;have hv:=q3 (by omega);have hr:=h.rows K';rw[hK] at hr;obtain⟨g,o,c,hh,hrp⟩:=zmq (q:=i.toNat) hr (by omega);rw[h2] at hrp;rw[hv,hh,hl];exact⟨_,z2k w hs g o n c k i h0 h1,.cl _ _ hrp⟩
     |_=>simp only[hK] at hk
 · rename_i len s hs;split at hk<;>try exact hk.elim
   · rename_i K' o;obtain⟨h0,h1,rfl⟩:=hk;obtain⟨rfl,cs,e,hK⟩:=hx.ptr_inv;exact⟨_,z42 w hs _ _ k i h0 h1,.ptr K' _ cs e hK⟩
   · rename_i l;obtain⟨h0,h1,rfl⟩:=hk;obtain⟨g,o,rfl⟩:=zhp hx.rp_inv;exact⟨_,z42 w hs _ _ k i h0 h1,.cl _ _ (hx.rp_inv.rp_drop _)⟩
end
end Go.Proofs.YtnlacmnoocigiaaGreatDoor.Aw
namespace Go.Proofs.YtnlacmnoocigiaaGreatDoor.Aw
open Go.RowKit
theorem z9z (b:ByteArray):b.toList=b.data.toList:=by
 have loop:∀(n i:Nat) (r:List UInt8),b.size - i=n→ByteArray.toList.loop b i r=r.reverse++b.data.toList.drop i:=by
  intro n
  induction n with
  |zero=>intro i r h;rw[ByteArray.toList.loop,if_neg (by omega),List.drop_of_length_le (by show b.size≤i;omega),List.append_nil]
  |succ n ih=>
   intro i r h;have hi:i<b.size:=by omega
   rw[ByteArray.toList.loop,if_pos hi,ih (i+1) _ (by omega)];have hd:b.data.toList.drop i=b.get! i::b.data.toList.drop (i+1):=by rw[List.drop_eq_getElem_cons (show i<b.data.toList.length from hi)];congr 1;have:i<b.data.size:=hi;rw[show b.get! i=b.data[i]! from rfl,getElem!_pos b.data i this];simp
   rw[hd];simp
 unfold ByteArray.toList;rw[loop b.size 0 [] (by omega)];simp
theorem bytes_beq (x y:ByteArray):(x.toList==y.toList)=decide (x=y):=by
 rw[z9z,z9z];by_cases h:x=y
 · subst h;simp
 · rw[decide_eq_false h];apply beq_false_of_ne;intro hc;apply h;have:x.data=y.data:=Array.toList_inj.1 hc;cases x;cases y;simp_all
structure Spec where
 call:FuncId→List AV→Option (Prop×AV×List Row)
 eqs:TypeId→List Value→List Value→Option Bool
 callM:FuncId→List AV→List Row→Option (Prop×AV×List Row)
 ms:List FuncId
 pins:Nat
def z0p :List AV→Option (List Value)
 |[]=>some []
 |.sc u::l=>(z0p l).map (u::·)
 |_=>none
def intW (op:BinOp)(k:IntKind)(a b:Int)(K:AV→Prop):Prop:=
 match op with
 |.add=>K (.sc (.int k (k.wrap (a+b))))
 |.sub=>K (.sc (.int k (k.wrap (a - b))))
 |.mul=>K (.sc (.int k (k.wrap (a*b))))
 |.quo=>b≠0∧K (.sc (.int k (k.wrap (a.tdiv b))))
 |.rem=>b≠0∧K (.sc (.int k (a.tmod b)))
 |.eql=>K (.sc (.bool (a==b)))
 |.neq=>K (.sc (.bool (a !=b)))
 |.lss=>K (.sc (.bool (decide (a<b))))
 |.leq=>K (.sc (.bool (decide (a≤b))))
 |.gtr=>K (.sc (.bool (decide (a>b))))
 |.geq=>K (.sc (.bool (decide (a≥b))))
 |_=>False
def strW (op:BinOp)(a b:ByteArray)(K:AV→Prop):Prop:=
 match op with
 |.add=>a.size+b.size≤9223372036854775807∧K (.sc (.string (a++b)))
 |.eql=>K (.sc (.bool (decide (a=b))))
 |.neq=>K (.sc (.bool (!decide (a=b))))
 |.lss=>K (.sc (.bool (Op.bytesLess a.toList b.toList)))
 |.leq=>K (.sc (.bool (Op.bytesLess a.toList b.toList||decide (a=b))))
 |.gtr=>K (.sc (.bool (!(Op.bytesLess a.toList b.toList||decide (a=b)))))
 |.geq=>K (.sc (.bool (!Op.bytesLess a.toList b.toList)))
 |_=>False
def eqsW (sp:Spec)(op:BinOp)(t:TypeId)(l m:List AV)(K:AV→Prop):Prop:=
 match z0p l,z0p m with
 |some a,some b=>match sp.eqs t a b with
  |some r=>match op with
   |.eql=>K (.sc (.bool r))
   |.neq=>K (.sc (.bool (!r)))
   |_=>False
  |none=>False
 |_,_=>False
def binW (P:Program)(sp:Spec)(op:BinOp)(t:TypeId)(x y:AV)(K:AV→Prop):Prop:=
 match x with
 |.sc (.int k a)=>match y with
  |.sc (.int k' b)=>k=k'∧intW op k a b K
  |_=>False
 |.sc (.string a)=>match y with
  |.sc (.string b)=>strW op a b K
  |_=>False
 |.sc (.bool a)=>match y with
  |.sc (.bool b)=>zf6 P t=true∧match op with
   |.eql=>K (.sc (.bool (a==b)))
   |.neq=>K (.sc (.bool (!(a==b))))
   |_=>False
  |_=>False
 |.agg l=>match y with
  |.agg m=>eqsW sp op t l m K
  |_=>False
 |_=>False
def unW (op:UnOp)(x:AV)(K:AV→Prop):Prop:=
 match op with
 |.not=>match x with
  |.sc (.bool b)=>K (.sc (.bool (!b)))
  |_=>False
 |.neg=>match x with
  |.sc (.int k n)=>K (.sc (.int k (k.wrap (0 - n))))
  |_=>False
 |_=>False
def zds (P:Program)(src dst:TypeId)(x:AV)(K:AV→Prop):Prop:=
 (P.underlying src).isSome=true∧match x with
 |.sc (.int _ n)=>match zau P dst with
  |some k=>K (.sc (.int k (k.wrap n)))
  |none=>False
 |.sc (.string s)=>z3s P dst=true∧K (.sc (.string s))
 |_=>False
def z8d (P:Program)(t:TypeId)(f:Nat)(x:AV)(K:AV→Prop):Prop:=
 match x with
 |.agg l=>match zdo P t f with
  |some (off,ft)=>z6m P ft (l.drop off) K
  |none=>False
 |_=>False
def z8e (P:Program)(t:TypeId)(x ix:AV)(K:AV→Prop):Prop:=
 match ix with
 |.sc (.int _ i)=>match x with
  |.sc (.string s)=>z3s P t=true∧idxW i s.size fun q=>K (.sc (.int .u8 (byteAt s q)))
  |.agg l=>match zdp P t with
   |some (len,et,sz)=>idxW i len fun q=>z6m P et (l.drop (q*sz)) K
   |none=>False
  |_=>False
 |_=>False
def z4k (d:Nat)(x:Option AV)(K:Int→Prop):Prop:=
 match x with
 |none=>K d
 |some (.sc (.int _ i))=>K i
 |_=>False
def z8f (P:Program)(t:TypeId)(x:AV)(lo hi:Option AV)(K:AV→Prop):Prop:=
 match x with
 |.sc (.string s)=>z3s P t=true∧z4k s.size hi fun h=>z4k 0 lo fun l=>0≤l∧l≤h∧h≤s.size∧K (.sc (.string (s.extract l.toNat h.toNat)))
 |.ro es=>match z0m P t with
  |some (none,sz)=>z4k es.length hi fun h=>z4k 0 lo fun l=>0≤l∧l≤h∧h≤es.length∧(∀e∈es,e.length=sz)∧K (.ro ((es.take h.toNat).drop l.toNat))
  |_=>False
 |_=>False
def lenW (P:Program)(H:Heap)(t:TypeId)(x:AV)(K:AV→Prop):Prop:=
 match x with
 |.sc (.string s)=>z3s P t=true∧K (.sc (.int .i64 s.size))
 |.ro l=>match z0m P t with
  |some (none,_)=>K (.sc (.int .i64 l.length))
  |_=>False
 |.sl K' n=>match z0m P t with
  |some (none,_)=>(H K').len=some n∧K (.sc (.int .i64 n))
  |_=>False
 |.sc (.slice _ n _)=>match z0m P t with
  |some (none,_)=>K (.sc (.int .i64 n))
  |_=>False
 |_=>False
def nilW (H:Heap)(x:AV)(K:AV→Prop):Prop:=
 match x with
 |.ptr K' o=>K (.ptr K' o)
 |.rp l=>K (.rp l)
 |.lp K' n i j=>match H K' with
  |.lst _ l _=>l.length=n∧K (.lp K' n i j)
  |_=>False
 |.fn f c=>K (.fn f c)
 |.sc (.pointer (some a))=>K (.sc (.pointer (some a)))
 |.sc (.func (.func f) fi c)=>K (.sc (.func (.func f) fi c))
 |_=>False
def valW (P:Program)(sp:Spec)(H:Heap)(e:Operand→AV)(op:Op)(K:AV→Prop):Prop:=
 match op with
 |.move x=>K (e x)
 |.assign x=>K (e x)
 |.pick c x y=>match e c with
  |.sc (.bool t)=>K (if t=true then e x else e y)
  |_=>False
 |.load t p=>placeW H (e p) fun cs=>z6m P t cs K
 |.fieldAddr s x f=>z17 P H s f (e x) K
 |.indexAddr t x ix=>z18 P H t (e x) (e ix) K
 |.field t x f=>z8d P t f (e x) K
 |.index t x ix=>z8e P t (e x) (e ix) K
 |.extract t i=>match e t with
  |.tup l=>match l[i]? with
   |some x=>K x
   |none=>False
  |_=>False
 |.nilCheck x=>nilW H (e x) K
 |.unOp op _ x=>unW op (e x) K
 |.binOp op t x y _=>binW P sp op t (e x) (e y) K
 |.convert src dst x=>zds P src dst (e x) K
 |.slice t x lo hi mx=>mx=none∧z8f P t (e x) (lo.map e) (hi.map e) K
 |.makeFunc fn first cap=>match fn with
  |.func f=>first.size=0∧K (.fn f (cap.toList.map e))
  |_=>False
 |.call c=>match c.callee with
  |.builtin .len=>match c.args.toList,c.argTypes.toList with
   |[x],[t]=>lenW P H t (e x) K
   |_,_=>False
  |_=>False
 |_=>False
section
variable {P : Program} {sp : Spec} {w0 w w' : World} {fp : Nat → Prop} {S0 : Bs} {I I' : Itp} {H H' : Heap} {n : Nat} {E : Nat → AV} {a : Act}
theorem zr6 {op:BinOp}{k:IntKind}{a b:Int}{K:AV→Prop}(h:intW op k a b K):∃r,K r∧intW op k a b (· =r):=by unfold intW at*;cases op<;>first|exact h.elim|exact⟨_,h,rfl⟩|exact⟨_,h.2,h.1,rfl⟩
theorem zr7 {op:BinOp}{a b:ByteArray}{K:AV→Prop}(h:strW op a b K):∃r,K r∧strW op a b (· =r):=by unfold strW at*;cases op<;>first|exact h.elim|exact⟨_,h,rfl⟩|exact⟨_,h.2,h.1,rfl⟩
theorem zr8 {op:BinOp}{t:TypeId}{l m:List AV}{K:AV→Prop}(h:eqsW sp op t l m K):∃r,K r∧eqsW sp op t l m (· =r):=by
 unfold eqsW at*;split at h<;>try exact h.elim
 split at h<;>try exact h.elim
 split at h<;>first|exact h.elim|exact⟨_,h,rfl⟩
theorem zr9 {op:BinOp}{t:TypeId}{x y:AV}{K:AV→Prop}(h:binW P sp op t x y K):∃r,K r∧binW P sp op t x y (· =r):=by
 unfold binW at*;split at h<;>try exact h.elim
 · split at h<;>try exact h.elim
   obtain⟨r,h1,h2⟩:=zr6 h.2;exact⟨r,h1,h.1,h2⟩
 · split at h<;>try exact h.elim
   exact zr7 h
 · split at h<;>try exact h.elim
   obtain⟨h1,h2⟩:=h;split at h2<;>first|exact h2.elim|exact⟨_,h2,h1,rfl⟩
 · split at h<;>try exact h.elim
   exact zr8 h
theorem zup {op:UnOp}{x:AV}{K:AV→Prop}(h:unW op x K):∃r,K r∧unW op x (· =r):=by
 unfold unW at*;split at h<;>try exact h.elim
 all_goals
  split at h<;>first|exact h.elim|exact⟨_,h,rfl⟩
theorem zmr {src dst:TypeId}{x:AV}{K:AV→Prop}(h:zds P src dst x K):∃r,K r∧zds P src dst x (· =r):=by
 unfold zds at*;obtain⟨h0,h⟩:=h;split at h<;>try exact h.elim
 · split at h<;>first|exact h.elim|(rename_i hk;exact⟨_,h,h0,by simp only⟩)
 · exact⟨_,h.2,h0,h.1,rfl⟩
theorem zkz {t:TypeId}{f:Nat}{x:AV}{K:AV→Prop}(h:z8d P t f x K):∃r,K r∧z8d P t f x (· =r):=by
 unfold z8d at*;split at h<;>try exact h.elim
 split at h<;>try exact h.elim
 obtain⟨r,h1,h2⟩:=zav h;exact⟨r,h1,h2⟩
theorem zl0 {t:TypeId}{x ix:AV}{K:AV→Prop}(h:z8e P t x ix K):∃r,K r∧z8e P t x ix (· =r):=by
 unfold z8e at*;split at h<;>try exact h.elim
 split at h<;>try exact h.elim
 · exact⟨_,h.2.2.2,h.1,h.2.1,h.2.2.1,rfl⟩
 · split at h<;>try exact h.elim
   obtain⟨r,h1,h2⟩:=zav h.2.2;exact⟨r,h1,h.1,h.2.1,h2⟩
theorem z7c {d:Nat}{x:Option AV}{K:Int→Prop}(h:z4k d x K):∃r,K r∧∀K':Int→Prop,K' r→z4k d x K':=by unfold z4k at*;split at h<;>first|exact h.elim|exact⟨_,h,fun K' h'=>h'⟩
theorem zl1 {t:TypeId}{x:AV}{lo hi:Option AV}{K:AV→Prop}(h:z8f P t x lo hi K):∃r,K r∧z8f P t x lo hi (· =r):=by
 unfold z8f at*;split at h<;>try exact h.elim
 · obtain⟨h0,h⟩:=h;obtain⟨p,h1,g1⟩:=z7c h;obtain⟨q,h2,g2⟩:=z7c h1;exact⟨_,h2.2.2.2,h0,g1 _ (g2 _ ⟨h2.1,h2.2.1,h2.2.2.1,rfl⟩)⟩
 · split at h<;>try exact h.elim
   obtain⟨p,h1,g1⟩:=z7c h;obtain⟨q,h2,g2⟩:=z7c h1;exact⟨_,h2.2.2.2.2,g1 _ (g2 _ ⟨h2.1,h2.2.1,h2.2.2.1,h2.2.2.2.1,rfl⟩)⟩
theorem zra {t:TypeId}{x:AV}{K:AV→Prop}(h:lenW P H t x K):∃r,K r∧lenW P H t x (· =r):=by
 unfold lenW at*;split at h<;>try exact h.elim
 · exact⟨_,h.2,h.1,rfl⟩
 all_goals
  split at h<;>first|exact h.elim|exact⟨_,h,rfl⟩|exact⟨_,h.2,h.1,rfl⟩
theorem zrb {x:AV}{K:AV→Prop}(h:nilW H x K):∃r,K r∧nilW H x (· =r):=by
 unfold nilW at*;split at h<;>try exact h.elim
 · exact⟨_,h,rfl⟩
 · exact⟨_,h,rfl⟩
 · split at h<;>first|exact h.elim|exact⟨_,h.2,h.1,rfl⟩
 · exact⟨_,h,rfl⟩
 · exact⟨_,h,rfl⟩
 · exact⟨_,h,rfl⟩
theorem z7d {e:Operand→AV}{op:Op}{K:AV→Prop}(h:valW P sp H e op K):∃r,K r∧valW P sp H e op (· =r):=by
 unfold valW at*;split at h<;>try exact h.elim
 · exact⟨_,h,rfl⟩
 · exact⟨_,h,rfl⟩
 · split at h<;>first|exact h.elim|exact⟨_,h,rfl⟩
 · obtain⟨cs,h1,h2⟩:=zky h;obtain⟨r,h3,h4⟩:=zav h1;refine⟨r,h3, ?_⟩;unfold placeW at h2⊢;split at h2<;>try exact h2.elim
   · split at h2<;>first|exact h2.elim|(subst h2;exact h4)
   · subst h2;exact h4
   · split at h2<;>first|exact h2.elim|(obtain⟨a1,a2,rfl⟩:=h2;exact⟨a1,a2,h4⟩)
 · exact zci h
 · exact zcj h
 · exact zkz h
 · exact zl0 h
 · split at h<;>try exact h.elim
   split at h<;>first|exact h.elim|exact⟨_,h,rfl⟩
 · exact zrb h
 · exact zup h
 · exact zr9 h
 · exact zmr h
 · obtain⟨r,h1,h2⟩:=zl1 h.2;exact⟨r,h1,h.1,h2⟩
 · split at h<;>first|exact h.elim|exact⟨_,h.2,h.1,rfl⟩
 · split at h<;>try exact h.elim
   split at h<;>try exact h.elim
   exact zra h
end
end Go.Proofs.YtnlacmnoocigiaaGreatDoor.Aw
namespace Go.Proofs.YtnlacmnoocigiaaGreatDoor.Aw
open Go.RowKit
def zrc (P:Program)(sp:Spec):Prop:=∀t a b r,sp.eqs t a b=some r→∀w:World,(∀op x y,(eqGuard op t x y (.agg a.toArray) (.agg b.toArray)).run P w=.ok () w)∧(Op.equal t (.agg a.toArray) (.agg b.toArray)).run P w=.ok r w
section
variable {P : Program} {sp : Spec} {w0 w w' : World} {fp : Nat → Prop} {S0 : Bs} {I I' : Itp} {H H' : Heap} {n : Nat} {E : Nat → AV} {a : Act}
theorem VR.scv (u:Value):VR I H w (.sc u) u:=.cl _ _ (.sc u)
theorem zuq {op:BinOp}{t:TypeId}{x y:Operand}{k:IntKind}{p q:Int}{r:AV}(h:intW op k p q (· =r)):
 ∃v,((do eqGuard op t x y (.int k p) (.int k q);binOp op t (.int k p) (.int k q):Sem Value)).run P w=.ok v w∧VR I H w r v:=by
 unfold intW at h
 cases op<;>simp only at h<;>first
  |exact h.elim
  |(subst h
    refine⟨_, ?_,VR.scv _⟩;simp[eqGuard,binOp,Op.intArith,Op.intCmp,Sem.run_bind];done)
  |(obtain⟨h0,h⟩:=h
    subst h;refine⟨_, ?_,VR.scv _⟩;simp[eqGuard,binOp,Op.intDiv,h0,Sem.run_bind];done)
theorem zur {op:BinOp}{t:TypeId}{x y:Operand}{p q:ByteArray}{r:AV}(h:strW op p q (· =r)):
 ∃v,((do eqGuard op t x y (.string p) (.string q);binOp op t (.string p) (.string q):Sem Value)).run P w=.ok v w∧VR I H w r v:=by
 unfold strW at h;have hb:=bytes_beq p q
 cases op<;>simp only at h<;>first
  |exact h.elim
  |(subst h
    refine⟨_, ?_,VR.scv _⟩;simp[eqGuard,binOp,Op.stringOp,Sem.run_bind,hb];done)
  |(obtain⟨h0,h⟩:=h
    subst h;refine⟨_, ?_,VR.scv _⟩;have h1:¬(IntKind.i64.max<(p.size:Int)+q.size):=by show ¬((9223372036854775807:Int)<(p.size:Int)+q.size);omega
    simp[eqGuard,binOp,Op.stringOp,Sem.run_bind,h1];first|done|omega)
theorem zj9 {l:List AV}{us vs:List Value}(h:z0p l=some us)(hl:l.length=vs.length)(hv:∀(i:Nat) x v,l[i]? =some x→vs[i]? =some v→VR I H w x v):us=vs:=by
 induction l generalizing us vs with
 |nil=>
  cases h
  cases vs with
  |nil=>rfl
  |cons=>simp at hl
 |cons x l ih=>
  cases vs with
  |nil=>simp at hl
  |cons v vs=>
   cases x<;>simp only[z0p] at h<;>try (cases h;done)
   rename_i u
   cases hr:z0p l with
   |none=>rw[hr] at h;cases h
   |some us'=>rw[hr] at h;cases h;have:=(hv 0 _ v rfl rfl).sc_inv;rw[ih hr (by simpa using hl) (fun i x v h1 h2=>hv (i+1) x v (by simpa using h1) (by simpa using h2)),this]
theorem zus (hsp:zrc P sp){op:BinOp}{t:TypeId}{x y:Operand}{p q r:AV}{u v:Value}(h:binW P sp op t p q (· =r))(hp:VR I H w p u)(hq:VR I H w q v):
 ∃z,((do eqGuard op t x y u v;binOp op t u v:Sem Value)).run P w=.ok z w∧VR I H w r z:=by
 unfold binW at h;split at h<;>try exact h.elim
 · split at h<;>try exact h.elim
   obtain⟨rfl,h⟩:=h;rw[hp.sc_inv,hq.sc_inv];exact zuq h
 · split at h<;>try exact h.elim
   rw[hp.sc_inv,hq.sc_inv];exact zur h
 · split at h<;>try exact h.elim
   rename_i b b2;obtain⟨h1,h2⟩:=h;rw[hp.sc_inv,hq.sc_inv]
   have hu:P.underlying t=some .bool:=by
    unfold zf6 at h1;split at h1
    · assumption
    · cases h1
   split at h2<;>first
    |exact h2.elim
    |(subst h2;exact⟨_,by simp[eqGuard,binOp,run_equal_bool (P:=P) w t _ _ hu,Sem.run_bind],VR.scv _⟩)
 · split at h<;>try exact h.elim
   unfold eqsW at h;split at h<;>try exact h.elim
   rename_i l m b c hb hc;obtain⟨vs,rfl,g1, -,g3⟩:=hp.agg_inv;obtain⟨us,rfl,k1, -,k3⟩:=hq.agg_inv;have e1:=zj9 hb g1 g3;have e2:=zj9 hc k1 k3;subst e1;subst e2;split at h<;>try exact h.elim
   rename_i r' hr';obtain⟨q1,q2⟩:=hsp _ _ _ _ hr' w
   split at h<;>first
    |exact h.elim
    |(subst h;exact⟨_,by simp[binOp,Sem.run_bind,q1,q2],VR.scv _⟩)
theorem zwy {op:UnOp}{x r:AV}{v:Value}(h:unW op x (· =r))(hx:VR I H w x v):∃z,(Op.unary op v).run P w=.ok z w∧VR I H w r z:=by
 unfold unW at h;split at h<;>try exact h.elim
 all_goals
  split at h<;>first
   |exact h.elim
   |(subst h;rw[hx.sc_inv];exact⟨_,by simp[Op.unary,Op.intArith],VR.scv _⟩)
theorem zja {t:TypeId}(h:z3s P t=true):P.underlying t=some .string:=by
 unfold z3s at h;split at h
 · assumption
 · cases h
theorem zrd {src dst:TypeId}{x r:AV}{v:Value}(h:zds P src dst x (· =r))(hx:VR I H w x v):∃z,(convert src dst v).run P w=.ok z w∧VR I H w r z:=by
 unfold zds at h;obtain⟨h0,h⟩:=h;obtain⟨d,hd⟩:=Option.isSome_iff_exists.1 h0;split at h<;>try exact h.elim
 · split at h<;>try exact h.elim
   rename_i m k hk
   have hu:P.underlying dst=some (.int k):=by
    unfold zau at hk;split at hk
    · cases hk;assumption
    · cases hk
   subst h;rw[hx.sc_inv];exact⟨_,by simp[convert,run_underlying hd,run_underlying hu,Sem.run_bind,Conv.intToInt],VR.scv _⟩
 · obtain⟨h1,rfl⟩:=h;rw[hx.sc_inv];have hu:=zja h1;refine⟨_, ?_,VR.scv _⟩;simp only[convert,run_underlying hd,run_underlying hu,Sem.run_bind,Result.andThen_ok];cases d<;>rfl
theorem zms {t:TypeId}{l:List AV}{vs:List Value}{r:AV}{off:Nat}(h:z6m P t (l.drop off) (· =r))(hl:l.length=vs.length)(h1:∀v∈vs,v.oneCell'=true)(hv:∀(i:Nat) x v,l[i]? =some x→vs[i]? =some v→VR I H w x v):
 ∃z,(part t vs.toArray off).run P w=.ok z w∧VR I H w r z:=by
 unfold z6m z1o at h
 cases hu:P.underlying t with
 |none=>simp[hu] at h
 |some d=>
  cases hi:P.info? t with
  |none=>simp[hu,hi] at h
  |some i=>
   simp only[hu,hi] at h;by_cases hd:d.isRow=true
   · rw[if_pos hd] at h;simp only at h;obtain⟨k1,rfl⟩:=h;have hagg:(isAgg t).run P w=.ok true w:=by unfold isAgg;rw[Sem.run_bind,run_underlying hu w];cases d<;>simp_all
     refine⟨.agg ((vs.drop off).take i.size).toArray, ?_,.agg _ _ (by simp[hl]) (fun v hv=>h1 v (List.mem_of_mem_drop (List.mem_of_mem_take hv))) (fun q x v g1 g2=> ?_)⟩
     · simp[part,hagg,sizeOf,typeInfo,hi,Sem.run_bind]
     · rw[List.getElem?_take] at g1 g2;split at g1
       · rename_i hq;rw[if_pos hq,List.getElem?_drop] at g2;rw[List.getElem?_drop] at g1;exact hv _ x v g1 g2
       · cases g1
   · rw[if_neg hd] at h;simp only at h;have hagg:(isAgg t).run P w=.ok false w:=by unfold isAgg;rw[Sem.run_bind,run_underlying hu w];cases d<;>simp_all
     cases hc:l.drop off with
     |nil=>rw[hc] at h;exact h.elim
     |cons c cs=>
      rw[hc] at h;simp only at h;subst h;have hx:l[off]? =some c:=by have:=congrArg (·[0]?) hc;simpa using this
      have hlt:off<vs.length:=by rw[←hl];exact(List.getElem?_eq_some_iff.1 hx).1
      exact⟨vs[off],by simp[part,hagg,Sem.run_bind,hlt],hv off c _ hx (List.getElem?_eq_getElem hlt)⟩
theorem zmt {t:TypeId}{f:Nat}{x r:AV}{v:Value}(h:z8d P t f x (· =r))(hx:VR I H w x v):∃z,(Instr.field t v f).run P w=.ok z w∧VR I H w r z:=by
 unfold z8d at h;split at h<;>try exact h.elim
 split at h<;>try exact h.elim
 rename_i l off ft hp;obtain⟨vs,rfl,g1,g2,g3⟩:=hx.agg_inv;obtain⟨z,q1,q2⟩:=zms h g1 g2 g3;refine⟨z, ?_,q2⟩;unfold zdo at hp;split at hp<;>try (cases hp;done)
 rename_i fs hu
 cases hfd:fs[f]? with
 |none=>rw[hfd] at hp;cases hp
 |some fd=>rw[hfd] at hp;cases hp;simp[Instr.field,run_underlying hu,hfd,Sem.run_bind,asAgg,q1]
theorem zmu {t:TypeId}{x ix r:AV}{v vi:Value}(h:z8e P t x ix (· =r))(hx:VR I H w x v)(hi:VR I H w ix vi):∃z,(Instr.index t v vi).run P w=.ok z w∧VR I H w r z:=by
 unfold z8e at h;split at h<;>try exact h.elim
 rename_i k i;rw[hi.sc_inv];split at h<;>try exact h.elim
 · rename_i s;obtain⟨h1,h2,h3,rfl⟩:=h;rw[hx.sc_inv];have hu:=zja h1;have hlt:i.toNat<s.size:=by omega
   refine⟨_, ?_,VR.scv _⟩;have hb:s[i.toNat]? =some (s[i.toNat]'hlt):=getElem?_pos s i.toNat hlt;have hby:byteAt s i.toNat=((s[i.toNat]'hlt).toNat:Int):=by unfold byteAt;rw[List.getD_eq_getElem?_getD,List.getElem?_eq_getElem (show i.toNat<s.data.toList.length from hlt)];rfl
   simp[Instr.index,asIntOf,run_underlying hu,Sem.run_bind,h2,hb,hby]
 · rename_i l;split at h<;>try exact h.elim
   rename_i len et sz he;obtain⟨h2,h3,h⟩:=h;obtain⟨vs,rfl,g1,g2,g3⟩:=hx.agg_inv;obtain⟨z,q1,q2⟩:=zms h g1 g2 g3;refine⟨z, ?_,q2⟩;unfold zdp at he;split at he<;>try (cases he;done)
   rename_i m e hu
   cases hi2:P.info? e with
   |none=>rw[hi2] at he;cases he
   |some i2=>rw[hi2] at he;cases he;simp[Instr.index,asIntOf,run_underlying hu,Sem.run_bind,h2,h3,sizeOf,typeInfo,hi2,q1]
theorem zaf {d:Nat}{lo:Option AV}{lv:Option Value}{K:Int→Prop}(h:z4k d lo K)(hv:∀x v,lo=some x→lv=some v→VR I H w x v)(hs:lo.isSome=lv.isSome):∃i:Int,K i∧((lv=none∧i=d)∨∃k,lv=some (.int k i)):=by
 unfold z4k at h;split at h<;>try exact h.elim
 · cases lv with
   |none=>exact⟨_,h,.inl ⟨rfl,rfl⟩⟩
   |some v=>cases hs
 · rename_i k i
   cases lv with
   |none=>cases hs
   |some v=>have:=(hv _ v rfl rfl).sc_inv;subst this;exact⟨i,h,.inr ⟨k,rfl⟩⟩
theorem zut {α:Type}{C:Cod α}{S:Nat→Prop}{A:Option Addr}{n c:Nat}{l:List α}(h:Rd C w S (.slice A n c) l){k:Nat}(hk:k≤l.length):Rd C w S (.slice A k c) (l.take k):=by
 obtain⟨A',c',h1,h2,h3,h4,h5⟩:=h;simp only[Value.slice.injEq] at h1;obtain⟨rfl,rfl,rfl⟩:=h1;have hl:(l.take k).length=k:=by rw[List.length_take];omega
 refine⟨_,c,by rw[hl],by omega,h3,h4,fun hp=> ?_⟩;obtain⟨g,off,rfl,hg,hc⟩:=h5 (by omega);refine⟨g,off,rfl,hg,fun j u hu=> ?_⟩;rw[←C.flat_take,List.getElem?_take] at hu;split at hu
 · exact hc j u hu
 · cases hu
theorem zuu {α:Type}{C:Cod α}{S:Nat→Prop}{A:Option Addr}{n c:Nat}{l:List α}(h:Rd C w S (.slice A n c) l){k:Nat}(hk:k≤l.length):Rd C w S (.slice (if c=k then A else A.map (·.add (k*C.size))) (n - k) (c - k)) (l.drop k):=by
 obtain⟨A',c',h1,h2,h3,h4,h5⟩:=h;simp only[Value.slice.injEq] at h1;obtain⟨rfl,rfl,rfl⟩:=h1;have hl:(l.drop k).length=l.length - k:=by rw[List.length_drop]
 refine⟨_,c - k,by rw[hl],by omega,by omega,fun h=> ?_,fun hp=> ?_⟩
 · split at h
   · omega
   · have:=h4 (by simpa using h);omega
 · obtain⟨g,off,rfl,hg,hc⟩:=h5 (by omega);refine⟨g,off+k*C.size, ?_,hg,fun j u hu=> ?_⟩
   · rw[if_neg (by omega),Option.map_some,Addr.add_lit]
   · rw[←C.flat_drop,List.getElem?_drop] at hu;rw[Nat.add_assoc];exact hc _ u hu
theorem zwz {S:Nat→Prop}{es:List (List AV)}{A:Option Addr}{n c:Nat}(h:VC S w (.ro es) (.slice A n c)){lo hi sz:Nat}(h1:lo≤hi)(h2:hi≤es.length)(hsz:∀e∈es,e.length=sz)(hpos:lo<hi∨True):
 VC S w (.ro ((es.take hi).drop lo)) (.slice (if c=lo then A else A.map (·.add (lo*sz))) (hi - lo) (c - lo)):=by
 cases h with
 |ro _ sz' hz cs u hrd hl hw hc=>
  obtain⟨A',c',e1, -⟩:=id hrd;simp only[Value.slice.injEq] at e1;obtain⟨rfl,rfl,rfl⟩:=e1;have hh:=zuu (zut hrd (k:=hi) (by omega)) (k:=lo) (by rw[List.length_take];omega);by_cases hne:es=[]
  · subst hne;simp only[List.length_nil] at h2 hl;have e1:hi=0:=by omega
    have e2:lo=0:=by omega
    subst e1;subst e2;have hcs:cs=[]:=List.eq_nil_of_length_eq_zero hl.symm;subst hcs;refine .ro _ sz' hz [] _ ?_ rfl (fun i e h=>by simp at h) (fun i j e c x v h=>by simp at h);simpa using hh
  · have hs:sz=sz':=by obtain⟨e,he⟩:=List.exists_mem_of_ne_nil es hne;obtain⟨i,hi,hh⟩:=List.getElem_of_mem he;rw[←hsz e he];exact hw i e (by rw[←hh];exact List.getElem?_eq_getElem hi)
    subst hs;refine .ro _ sz hz ((cs.take hi).drop lo) _ hh (by simp[hl]) (fun i e h=> ?_) (fun i j e c x v q1 q2 q3 q4=> ?_)
    · rw[List.getElem?_drop,List.getElem?_take] at h;split at h
      · exact hw _ e h
      · cases h
    · rw[List.getElem?_drop,List.getElem?_take] at q1 q2;split at q1
      · rename_i hq;rw[if_pos hq] at q2;exact hc _ j e c x v q1 q2 q3 q4
      · cases q1
theorem zmv {t:TypeId}{x r:AV}{v:Value}{lo hi:Option AV}{lv hv:Option Value}(h:z8f P t x lo hi (· =r))(hx:VR I H w x v)
 (hl:∀x v,lo=some x→lv=some v→VR I H w x v) (hls:lo.isSome=lv.isSome) (hh:∀x v,hi=some x→hv=some v→VR I H w x v) (hhs:hi.isSome=hv.isSome):
 ∃z,(Instr.sliceAt t v lv hv none).run P w=.ok z w∧VR I H w r z:=by
 unfold z8f at h;split at h<;>try exact h.elim
 · rename_i s;obtain⟨h0,h⟩:=h;have hu:=zja h0;obtain⟨b,h,hb⟩:=zaf h hh hhs;obtain⟨c,h,hc⟩:=zaf h hl hls;obtain⟨h1,h2,h3,rfl⟩:=h;rw[hx.sc_inv];refine⟨_, ?_,VR.scv _⟩;rcases hb with ⟨rfl,rfl⟩|⟨k,rfl⟩<;>rcases hc with ⟨rfl,rfl⟩|⟨k2,rfl⟩
   · simp[Instr.sliceAt,Instr.slice,Instr.sliceBounds,run_underlying hu,Sem.run_bind]
   · have q1:c≤(s.size:Int):=by omega
     simp[Instr.sliceAt,Instr.slice,Instr.sliceBounds,Instr.sliceBound,asIntOf,run_underlying hu,Sem.run_bind,h1,q1]
   · have q1:(0:Int)≤b:=by omega
     simp[Instr.sliceAt,Instr.slice,Instr.sliceBounds,Instr.sliceBound,asIntOf,run_underlying hu,Sem.run_bind,h3,q1]
   · have q1:(0:Int)≤b:=by omega
     have q2:c≤((b.toNat:Nat):Int):=by omega
     simp[Instr.sliceAt,Instr.slice,Instr.sliceBounds,Instr.sliceBound,asIntOf,run_underlying hu,Sem.run_bind,h3,q1,h1,q2];try (intro hm;omega)
 · rename_i es;split at h<;>try exact h.elim
   rename_i sz hidx;obtain⟨b,h,hb⟩:=zaf h hh hhs;obtain⟨c,h,hc⟩:=zaf h hl hls;obtain⟨h1,h2,h3,h4,rfl⟩:=h;have hvc:=hx.ro_inv
   have hform:∃A cp,v=.slice A es.length cp∧es.length≤cp:=by
    cases hvc with
    |ro _ sz' hz cs u hrd hl _ _=>obtain⟨A,cp,e1,e2, -⟩:=hrd.form;exact⟨A,cp,by rw[e1,hl],by omega⟩
   obtain⟨A,cp,rfl,hcp⟩:=hform;have hsub:=zwz hvc (lo:=c.toNat) (hi:=b.toNat) (sz:=sz) (by omega) (by omega) h4 (.inr trivial);refine⟨_, ?_,.cl _ _ hsub⟩;unfold z0m at hidx;split at hidx<;>try (cases hidx;done)
   · rename_i e hu
     cases hi2:P.info? e with
     |none=>rw[hi2] at hidx;cases hidx
     |some i2=>
      rw[hi2] at hidx;simp only[Option.map_some,Option.some.injEq,Prod.mk.injEq,true_and] at hidx;rcases hb with ⟨rfl,rfl⟩|⟨k,rfl⟩<;>rcases hc with ⟨rfl,rfl⟩|⟨k2,rfl⟩
      · simp[Instr.sliceAt,Instr.slice,Instr.sliceBounds,run_underlying hu,Sem.run_bind,sizeOf,typeInfo,hi2,hidx]
      · have q1:c≤(es.length:Int):=by omega
        simp[Instr.sliceAt,Instr.slice,Instr.sliceBounds,Instr.sliceBound,asIntOf,run_underlying hu,Sem.run_bind,h1,q1,sizeOf,typeInfo,hi2,hidx]
      · have q1:(0:Int)≤b:=by omega
        have q3:b≤(cp:Int):=by omega
        simp[Instr.sliceAt,Instr.slice,Instr.sliceBounds,Instr.sliceBound,asIntOf,run_underlying hu,Sem.run_bind,q3,q1,sizeOf,typeInfo,hi2,hidx]
      · have q1:(0:Int)≤b:=by omega
        have q2:c≤((b.toNat:Nat):Int):=by omega
        have q3:b≤(cp:Int):=by omega
        simp[Instr.sliceAt,Instr.slice,Instr.sliceBounds,Instr.sliceBound,asIntOf,run_underlying hu,Sem.run_bind,q3,q1,h1,q2,sizeOf,typeInfo,hi2,hidx];try (intro hm;omega)
   · rename_i m e hu;cases hi2:P.info? e<;>rw[hi2] at hidx<;>cases hidx
theorem zre {t:TypeId}{s:Nat}(h:z0m P t=some (none,s)):∃e,P.underlying t=some (.slice e):=by
 unfold z0m at h;split at h
 · rename_i e hu;exact⟨e,hu⟩
 · rename_i m e hu;cases hi2:P.info? e<;>rw[hi2] at h<;>cases h
 · cases h
theorem z5u {t:TypeId}{s:Nat}(h:z0m P t=some (none,s))(ty:TypeId)(A:Option Addr)(m c:Nat):(Builtin.len_ #[t] ty #[.slice A m c]).run P w=.ok (.int .i64 m) w:=by obtain⟨e,hu⟩:=zre h;simp[Builtin.len_,run_underlying hu,Sem.run_bind,goInt]
theorem zuv (h:Mem w0 fp S0 I H w){t ty:TypeId}{x r:AV}{v:Value}(hk:lenW P H t x (· =r))(hx:VR I H w x v):∃z,(Builtin.len_ #[t] ty #[v]).run P w=.ok z w∧VR I H w r z:=by
 unfold lenW at hk;split at hk<;>try exact hk.elim
 · obtain⟨h0,rfl⟩:=hk;have hu:=zja h0;rw[hx.sc_inv];exact⟨_,by simp[Builtin.len_,run_underlying hu,Sem.run_bind,goInt],VR.scv _⟩
 · split at hk<;>try exact hk.elim
   rename_i l _ s hidx;subst hk
   have hform:∃A cp,v=.slice A l.length cp:=by
    cases hx.ro_inv with
    |ro _ sz' hz cs u hrd hl _ _=>obtain⟨A,cp,e1,e2, -⟩:=hrd.form;exact⟨A,cp,by rw[e1,hl]⟩
   obtain⟨A,cp,rfl⟩:=hform;exact⟨_,z5u hidx ty A _ cp,VR.scv _⟩
 · split at hk<;>try exact hk.elim
   rename_i K' m _ s hidx;obtain⟨h1,rfl⟩:=hk;obtain⟨m',q1,q2,q3⟩:=hx.sl_inv;rw[h1] at q1;obtain⟨A,c,hh⟩:=zmp h h1;rw[q3 (Option.some.inj q1).symm,hh];exact⟨_,z5u hidx ty A _ c,VR.scv _⟩
 · split at hk<;>try exact hk.elim
   rename_i A m c _ s hidx;subst hk;rw[hx.sc_inv];exact⟨_,z5u hidx ty A _ c,VR.scv _⟩
end
end Go.Proofs.YtnlacmnoocigiaaGreatDoor.Aw
namespace Go.Proofs.YtnlacmnoocigiaaGreatDoor.Aw
open Go.RowKit
structure CR (I:Itp)(H:Heap)(w:World)(l:List AV)(vs:List Value):Prop where
 len:l.length=vs.length
 one:∀v∈vs,v.oneCell'=true
 ok:∀(i:Nat) x v,l[i]? =some x→vs[i]? =some v→VR I H w x v
def spl (cells:List AV)(off:Nat):List AV→List AV
 |[]=>cells
 |x::l=>spl (cells.set off x) (off+1) l
def splV (cells:List Value)(off:Nat):List Value→List Value
 |[]=>cells
 |x::l=>splV (cells.set off x) (off+1) l
def z0i (H:Heap)(plc:Nat→Option (Nat×Nat))(cells:List AV):List (Nat×AV)→(List AV→Prop)→Prop
 |[],K=>K cells
 |(i,x)::rest,K=>match plc i with
  |none=>False
  |some (off,size)=>z3r H x fun l=>l.length=size∧off+l.length≤cells.length∧z0i H plc (spl cells off l) rest K
def zcq (l:List Value):Bool:=l.all (·.oneCell')
def z1e (P:Program)(t:TypeId):Option (List Value×List (Nat×Nat)):=
 match P.info? t,P.underlying t with
 |some it,some (.array n e)=>match it.zero,P.info? e with
  |some z,some ie=>if zcq z.cells.toList then some (z.cells.toList,(List.range n).map fun i=>(i*ie.size,ie.size)) else none
  |_,_=>none
 |some it,some (.struct fields)=>match it.zero,fields.toList.mapM (fun f=>(P.info? f.type).map fun i=>(f.offset,i.size)) with
  |some z,some places=>if zcq z.cells.toList then some (z.cells.toList,places) else none
  |_,_=>none
 |_,_=>none
def z7m (P:Program)(H:Heap)(t:TypeId)(parts:List (Nat×AV))(K:AV→Prop):Prop:=
 match z1e P t with
 |some (z,plc)=>z0i H (plc[·]?) (z.map .sc) parts fun l=>K (.agg l)
 |none=>False
section
variable {P : Program} {sp : Spec} {w0 w w' : World} {fp : Nat → Prop} {S0 : Bs} {I I' : Itp} {H H' : Heap} {n : Nat} {E : Nat → AV} {a : Act}
theorem CR.set {l:List AV}{vs:List Value}(h:CR I H w l vs){x:AV}{v:Value}(hx:VR I H w x v)(h1:v.oneCell'=true)(i:Nat):CR I H w (l.set i x) (vs.set i v) where
 len:=by simp[h.len]
 one:=fun u hu=>by
  rcases List.mem_or_eq_of_mem_set hu with hu|rfl
  · exact h.one u hu
  · exact h1
 ok:=fun j y u hy hu=>by
  rw[List.getElem?_set] at hy hu;by_cases hij:i=j
  · rw[if_pos hij] at hy hu;split at hy
    · rename_i h2;rw[if_pos (by rw[←h.len];exact h2)] at hu;cases hy;cases hu;exact hx
    · cases hy
  · rw[if_neg hij] at hy hu;exact h.ok j y u hy hu
theorem CR.spl {l m:List AV}{vs us:List Value}(h:CR I H w l vs)(hm:CR I H w m us)(off:Nat):CR I H w (spl l off m) (splV vs off us):=by
 induction m generalizing l vs us off with
 |nil=>
  cases us with
  |nil=>exact h
  |cons=>have:=hm.len;simp at this
 |cons x m ih=>
  cases us with
  |nil=>have:=hm.len;simp at this
  |cons u us=>have hx:=hm.ok 0 x u rfl rfl;have ho:=hm.one u (by simp);exact ih (h.set hx ho off) ⟨by simpa using hm.len,fun v hv=>hm.one v (by simp[hv]),fun i y v h1 h2=>hm.ok (i+1) y v (by simpa using h1) (by simpa using h2)⟩ (off+1)
theorem zuw (us:List Value):∀(k:Nat) (off:Nat) (cs:Array Value),((us.zipIdx k).foldl (fun cs (x:Value×Nat)=>cs.setIfInBounds (off+x.2) x.1) cs).toList=splV cs.toList (off+k) us:=by
 induction us with
 |nil=>intro k off cs;rfl
 |cons u us ih=>intro k off cs;rw[List.zipIdx_cons,List.foldl_cons,ih (k+1) off];simp only[splV,Array.toList_setIfInBounds];rfl
theorem zag (h:Mem w0 fp S0 I H w){plc:Nat→Option (Nat×Nat)}{K:List AV→Prop}:∀{parts:List (Nat×AV)} {vparts:List (Nat×Value)} {cells:List AV} {vs:Array Value},z0i H plc cells parts K→CR I H w cells vs.toList→
 parts.length=vparts.length→(∀(i:Nat) p q,parts[i]? =some p→vparts[i]? =some q→p.1=q.1∧VR I H w p.2 q.2)→
 ∃l us,K l∧Instr.fill plc vs vparts=some us∧CR I H w l us.toList
 |[],vparts,cells,vs,hk,hc,hl,_=>by
  cases vparts with
  |nil=>exact⟨cells,vs,hk,rfl,hc⟩
  |cons=>simp at hl
 |(i,x)::rest,vparts,cells,vs,hk,hc,hl,hp=>by
  cases vparts with
  |nil=>simp at hl
  |cons q vrest=>
   obtain⟨i',v⟩:=q;obtain⟨rfl,hx⟩:=hp 0 _ _ rfl rfl;simp only[z0i] at hk
   cases hpl:plc i with
   |none=>rw[hpl] at hk;exact hk.elim
   |some os=>
    obtain⟨off,size⟩:=os;rw[hpl] at hk;simp only at hk;obtain⟨l,us,⟨k1,k2,k3⟩,e1,e2,e3,e4⟩:=z8c h hk hx;have hcr:CR I H w l us:=⟨e2,e3,e4⟩;have hlen:=hc.len;simp only[Array.length_toList] at hlen;have hfold:(v.cells.zipIdx.foldl (fun cs (x:Value×Nat)=>cs.setIfInBounds (off+x.2) x.1) vs).toList=splV vs.toList off us:=by rw[e1,←Array.foldl_toList];have:=zuw us 0 off vs;simpa using this
    obtain⟨l2,us2,g1,g2,g3⟩:=zag h (parts:=rest) (vparts:=vrest) (vs:=v.cells.zipIdx.foldl (fun cs (x:Value×Nat)=>cs.setIfInBounds (off+x.2) x.1) vs) k3 (by rw[hfold];exact hc.spl hcr off) (by simpa using hl)
     (fun j p q h1 h2=>hp (j+1) p q (by simpa using h1) (by simpa using h2))
    refine⟨l2,us2,g1, ?_,g3⟩;have hsz:v.cells.size=us.length:=by rw[e1];simp
    unfold Instr.fill;simp only[hpl];rw[if_neg (by simp only[hsz];rw[←e2];simp only[k1,ne_eq,not_true_eq_false,decide_false,Bool.false_or,decide_eq_true_eq];omega)];exact g2
theorem z8g {l:List Value}(h:zcq l=true):CR I H w (l.map .sc) l:=⟨by simp,fun v hv=>List.all_eq_true.1 h v hv,fun i x v h1 h2=>by rw[z4j h1 h2];exact .cl _ _ (.sc v)⟩
theorem zmw (h:Mem w0 fp S0 I H w){t:TypeId}{parts:List (Nat×AV)}{vparts:Array (Nat×Value)}{r:AV}(hk:z7m P H t parts (· =r))(hl:parts.length=vparts.size)
 (hp:∀(i:Nat) p q,parts[i]? =some p→vparts[i]? =some q→p.1=q.1∧VR I H w p.2 q.2):∃z,(Instr.build t vparts).run P w=.ok z w∧VR I H w r z:=by
 unfold z7m at hk;split at hk<;>try exact hk.elim
 rename_i z plc hb;unfold z1e at hb;split at hb<;>try (cases hb;done)
 · rename_i it n e hit hu;split at hb<;>try (cases hb;done)
   rename_i z' ie hz hie;split at hb<;>cases hb;rename_i ho
   have hk2:z0i H (fun i=>some (i*ie.size,ie.size)) (z'.cells.toList.map .sc) parts fun l=>AV.agg l=r:=by
    have gen:∀(ps:List (Nat×AV)) (cells:List AV),z0i H ((List.map (fun i=>(i*ie.size,ie.size)) (List.range n))[·]?) cells ps (fun l=>AV.agg l=r)→z0i H (fun i=>some (i*ie.size,ie.size)) cells ps (fun l=>AV.agg l=r):=by
     intro ps
     induction ps with
     |nil=>exact fun cells h=>h
     |cons p ps ih=>
      obtain⟨i,x⟩:=p;intro cells h;simp only[z0i] at h⊢;rw[List.getElem?_map] at h;by_cases hi:i<n
      · rw[List.getElem?_range hi] at h;simp only[Option.map_some] at h;unfold z3r at h⊢;split at h
        · exact⟨h.1,h.2.1,ih _ h.2.2⟩
        · exact⟨h.1,h.2.1,h.2.2.1,ih _ h.2.2.2⟩
      · rw[List.getElem?_eq_none (by simpa using hi)] at h;exact h.elim
    exact gen parts _ hk
   obtain⟨l,us,rfl,g2,g3⟩:=zag h hk2 (vs:=z'.cells) (z8g ho) (vparts:=vparts.toList) (by simpa using hl) (fun i p q h1 h2=>hp i p q h1 (by simpa using h2));have hbt:P.built t vparts.toList=some us:=by unfold Program.built;simp only[hit,hu,hz,hie];exact g2
   exact⟨_,run_build w t vparts us hbt,.agg l us.toList g3.len g3.one g3.ok⟩
 · rename_i it fields hit hu;split at hb<;>try (cases hb;done)
   rename_i z' places hz hpl;split at hb<;>cases hb;rename_i ho;obtain⟨l,us,rfl,g2,g3⟩:=zag h hk (vs:=z'.cells) (z8g ho) (vparts:=vparts.toList) (by simpa using hl) (fun i p q h1 h2=>hp i p q h1 (by simpa using h2));have hbt:P.built t vparts.toList=some us:=by unfold Program.built;simp only[hit,hu,hz,hpl];simpa using g2
   exact⟨_,run_build w t vparts us hbt,.agg l us.toList g3.len g3.one g3.ok⟩
end
end Go.Proofs.YtnlacmnoocigiaaGreatDoor.Aw
namespace Go.Proofs.YtnlacmnoocigiaaGreatDoor.Aw
open Go.RowKit
def ins (H:Heap)(nx:Nat)(new:List Row):Heap:=fun K=>if nx≤K∧K<nx+new.length then new.getD (K - nx) .dead else H K
theorem z98 (H:Heap)(nx:Nat):ins H nx []=H:=by funext K;unfold ins;rw[if_neg (by simp only[List.length_nil];omega)]
theorem zhq (H:Heap)(nx:Nat)(r:Row):ins H nx [r]=upd H nx r:=by
 funext K;unfold ins upd;simp only[List.length_cons,List.length_nil];by_cases h:K=nx
 · subst h;rw[if_pos (by omega),if_pos rfl,Nat.sub_self];rfl
 · rw[if_neg (by omega),if_neg h]
def z00 (rs:List Row):Heap:=fun K=>rs.getD K .dead
def zaw (P:Program)(w:World)(f:FuncId)(args:List AV)(r:AV)(rs:List Row):Prop:=
 ∀(S:Nat→Prop) (vs:List Value),(∀k,S k→k<w.heap.size)→args.length=vs.length→(∀(i:Nat) x v,args[i]? =some x→vs[i]? =some v→VC S w x v)→
  Calls P f vs.toArray w fun e w'=>∃v I',e=.returned v∧Mem w (fun _=>False) ⟨S,[]⟩ I' (z00 rs) w'∧VR I' (z00 rs) w' r v
def Con (P:Program)(Φ:World→Prop)(f:FuncId)(args:List AV)(r:AV)(rs:List Row):Prop:=∀w,Φ w→zaw P w f args r rs
def za0 (P:Program)(g:FuncId):Prop:=∃fn,P.funcs[g]? =some fn∧(fn.name== "runtime.NumGoroutine")=false∧fn.body.isNone=false
def ConMAt (P:Program)(w:World)(fq:Nat→Prop)(f:FuncId)(args:List AV)(rows:List Row)(r:AV)(rows':List Row):Prop:=
 ∀(fp S:Nat→Prop) (I:Itp) (vs:List Value),(∀k,fp k→fq k)→Mem w fp ⟨S,[]⟩ I (z00 rows) w→args.length=vs.length→(∀(i:Nat) x v,args[i]? =some x→vs[i]? =some v→VR I (z00 rows) w x v)→
  Calls P f vs.toArray w fun e w'=>∃v I',e=.returned v∧Mem w fp ⟨S,[]⟩ I' (z00 rows') w'∧VR I' (z00 rows') w' r v∧∀K cs e,z00 rows K=.var cs e→I'.ρ K=I.ρ K∧∃cs' e',z00 rows' K=.var cs' e'
structure SpecOk (P:Program)(sp:Spec)(w0:World)(fp:Nat→Prop):Prop where
 eqs:zrc P sp
 call:∀f args c r rs,sp.call f args=some (c,r,rs)→za0 P f∧(c→∀w,Fr fp w0 w→zaw P w f args r rs)
 callM:∀f args rows c r rows',sp.callM f args rows=some (c,r,rows')→za0 P f∧(c→∀w,Fr fp w0 w→ConMAt P w (fun k=>fp k∨w0.heap.size≤k) f args rows r rows')
def mapO (g:AV→Option AV):List AV→Option (List AV)
 |[]=>some []
 |x::l=>match g x,mapO g l with
  |some y,some m=>some (y::m)
  |_,_=>none
def scA (u:Value):AV:=match u with
 |.slice none 0 0=>.ro []
 |u=>.sc u
theorem zu8 {w:World}{S:Nat→Prop}:VC S w (.ro []) (.slice none 0 0):=.ro [] 1 (by decide) [] _ (Rd.nil_ (vecC 1 (by decide)) w S) rfl (fun i e h=>by simp at h) (fun i j e c x v h=>by simp at h)
theorem zmx {w:World}{S:Nat→Prop}(u:Value):VC S w (scA u) u:=by
 unfold scA;split
 · exact zu8
 · exact .sc _
def z0a :Nat→AV→Option AV
 |_,.sc u=>some (scA u)
 |_,.ro l=>some (.ro l)
 |_,.rp l=>some (.rp l)
 |f+1,.agg l=>(mapO (z0a f) l).map .agg
 |f+1,.fn g l=>(mapO (z0a f) l).map (.fn g)
 |_,_=>none
def z5v (H:Heap):Nat→AV→Option AV
 |_,.sc u=>some (scA u)
 |_,.ro l=>some (.ro l)
 |_,.rp l=>some (.rp l)
 |_,.sl K n=>match H K with
  |.lst _ l _=>if l.length=n then some (.ro l) else none
  |.fro l=>if l.length=n then some (.ro l) else none
  |_=>none
 |f+1,.ptr K off=>match H K with
  |.var cs _=>(mapO (z5v H f) (cs.drop off)).map .rp
  |_=>none
 |f+1,.agg l=>(mapO (z5v H f) l).map .agg
 |f+1,.fn g l=>(mapO (z5v H f) l).map (.fn g)
 |_,_=>none
def z0v :AV→Bool
 |.sc _=>true
 |.agg l=>l.all fun|.sc _=>true|_=>false
 |_=>false
def z0q :AV→Bool
 |.tup l=>l.all z0v
 |x=>z0v x
def z06 (d:Nat):Nat→AV→AV
 |_,.sc u=>.sc u
 |_,.ro l=>.ro l
 |_,.rp l=>.rp l
 |_,.ptr K off=>.ptr (d+K) off
 |_,.sl K n=>.sl (d+K) n
 |_,.lp K n i j=>.lp (d+K) n i j
 |f+1,.agg l=>.agg (l.map (z06 d f))
 |f+1,.tup l=>.tup (l.map (z06 d f))
 |f+1,.fn g l=>.fn g (l.map (z06 d f))
 |_,_=>.dead
def z07 (d:Nat):Row→Row
 |.var cs e=>.var (cs.map (z06 d 2)) e
 |r=>r
def callee (x:AV)(K:FuncId→List AV→Prop):Prop:=
 match x with
 |.sc (.func (.func g) fi c)=>fi.size=0∧c.size=0∧K g []
 |.fn g c=>K g c
 |_=>False
def zax (sp:Spec)(nx:Nat)(H:Heap)(f:AV)(args:List AV)(K:AV→List Row→Prop):Prop:=
 callee f fun g cap=>match mapO (z0a 3) (args++cap) with
  |some l=>match sp.call g l with
   |some (c,r,rs)=>c∧K (z06 nx 3 r) (rs.map (z07 nx))
   |none=>False
  |none=>match mapO (z5v H 4) (args++cap) with
   |some l=>match sp.call g l with
    |some (c,r,rs)=>c∧z0q r=true∧K r []
    |none=>False
   |none=>False
section
variable {P : Program} {sp : Spec} {w0 w w' : World} {fp : Nat → Prop} {S0 : Bs} {I I' : Itp} {H H' : Heap} {n : Nat} {E : Nat → AV} {a : Act}
theorem z57 {g:AV→Option AV}{R R':AV→Value→Prop}(hg:∀x y v,g x=some y→R x v→R' y v):∀{l m:List AV} {vs:List Value},mapO g l=some m→l.length=vs.length→(∀(i:Nat) x v,l[i]? =some x→vs[i]? =some v→R x v)→
 m.length=vs.length∧∀(i:Nat) x v,m[i]? =some x→vs[i]? =some v→R' x v
 |[],m,vs,h,hl,hv=>by cases h;exact⟨hl,fun i x v h=>by simp at h⟩
 |x::l,m,vs,h,hl,hv=>by
  cases vs with
  |nil=>simp at hl
  |cons v vs=>
   simp only[mapO] at h;split at h<;>try (cases h;done)
   rename_i y m' hy hm;cases h;obtain⟨h1,h2⟩:=z57 hg hm (by simpa using hl) (fun i x v a b=>hv (i+1) x v (by simpa using a) (by simpa using b));refine⟨by simp[h1],fun i x' v' a b=> ?_⟩
   cases i with
   |zero=>simp at a b;subst a;subst b;exact hg _ _ _ hy (hv 0 _ _ rfl rfl)
   |succ i=>exact h2 i x' v' (by simpa using a) (by simpa using b)
theorem zay :∀(f:Nat) (x y:AV) (v:Value),z0a f x=some y→VR I H w x v→VC I.S w y v
 |f,.sc u,y,v,h,hv=>by
  have:y=scA u:=by cases f<;>cases h<;>rfl
  subst this;rw[hv.sc_inv];exact zmx u
 |f,.ro l,y,v,h,hv=>by
  have:y=.ro l:=by cases f<;>cases h<;>rfl
  subst this;exact hv.ro_inv
 |f,.rp l,y,v,h,hv=>by
  have:y=.rp l:=by cases f<;>cases h<;>rfl
  subst this;exact hv.rp_inv
 |0,.agg l,y,v,h,hv=>by cases h
 |f+1,.agg l,y,v,h,hv=>by simp only[z0a,Option.map_eq_some_iff] at h;obtain⟨m,hm,rfl⟩:=h;obtain⟨vs,rfl,g1,g2,g3⟩:=hv.agg_inv;obtain⟨k1,k2⟩:=z57 (R:=fun x v=>VR I H w x v) (R':=fun y v=>VC I.S w y v) (fun x y v h hv=>zay f x y v h hv) hm g1 g3;exact .agg m vs k1 g2 k2
 |0,.fn g l,y,v,h,hv=>by cases h
 |f+1,.fn g l,y,v,h,hv=>by simp only[z0a,Option.map_eq_some_iff] at h;obtain⟨m,hm,rfl⟩:=h;obtain⟨vs,rfl,g1,g3⟩:=hv.fn_inv;obtain⟨k1,k2⟩:=z57 (R:=fun x v=>VR I H w x v) (R':=fun y v=>VC I.S w y v) (fun x y v h hv=>zay f x y v h hv) hm g1 g3;exact .fn g m vs k1 k2
 |f,.tup l,y,v,h,hv=>by cases f<;>cases h
 |f,.ptr K o,y,v,h,hv=>by cases f<;>cases h
 |f,.sl K n,y,v,h,hv=>by cases f<;>cases h
 |f,.lp K n i j,y,v,h,hv=>by cases f<;>cases h
 |f,.dead,y,v,h,hv=>by cases f<;>cases h
def seen (I:Itp)(H:Heap):Nat→Prop:=fun k=>I.S k∨∃K,Owns I H K k
theorem VC.seen {x:AV}{v:Value}(h:VC I.S w x v):VC (seen I H) w x v:=h.keep (fun k hk=>.inl hk) (fun _ _=>rfl)
theorem zdt (hm:Mem w0 fp S0 I H w){K n:Nat}{l:List (List AV)}{v:Value}(hK:(∃sz e,H K=.lst sz l e)∨H K=.fro l)(hl:l.length=n)(hv:VR I H w (.sl K n) v):VC (Go.Proofs.YtnlacmnoocigiaaGreatDoor.Aw.seen I H) w (.ro l) v:=by
 obtain⟨m,q1,q2,q3⟩:=hv.sl_inv;have hr:=hm.rows K;rcases hK with ⟨sz,e,hK⟩|hK
 · rw[hK] at q1 hr;simp only[Row.len,Option.some.injEq] at q1;rw[q3 (by omega)];obtain⟨hz,cs,g1,g2⟩:=hr;exact .ro l sz hz cs _ (g1.rd.mono (fun k hk=>.inr ⟨K,by unfold Owns;rw[hK];exact hk⟩)) g2.len g2.wide (fun i j e c x v h1 h2 h3 h4=>(g2.ok i j e c x v h1 h2 h3 h4).seen)
 · rw[hK] at q1 hr;simp only[Row.len,Option.some.injEq] at q1;rw[q3 (by omega)];exact VC.seen hr
theorem zah (hm:Mem w0 fp S0 I H w):∀(f:Nat) (x y:AV) (v:Value),z5v H f x=some y→VR I H w x v→VC (seen I H) w y v
 |f,.sc u,y,v,h,hv=>by
  have:y=scA u:=by cases f<;>cases h<;>rfl
  subst this;rw[hv.sc_inv];exact zmx u
 |f,.ro l,y,v,h,hv=>by
  have:y=.ro l:=by cases f<;>cases h<;>rfl
  subst this;exact hv.ro_inv.seen
 |f,.rp l,y,v,h,hv=>by
  have:y=.rp l:=by cases f<;>cases h<;>rfl
  subst this;exact hv.rp_inv.seen
 |f,.sl K n,y,v,h,hv=>by
  have h:(match H K with
   |.lst _ l _=>if l.length=n then some (AV.ro l) else none
   |.fro l=>if l.length=n then some (.ro l) else none
   |_=>none)=some y:=by cases f<;>exact h
  split at h<;>try (cases h;done)
  · rename_i sz l e hK;split at h<;>cases h;rename_i hl;exact zdt hm (.inl ⟨sz,e,hK⟩) hl hv
  · rename_i l hK;split at h<;>cases h;rename_i hl;exact zdt hm (.inr hK) hl hv
 |0,.ptr K off,y,v,h,hv=>by cases h
 |f+1,.ptr K off,y,v,h,hv=>by
  simp only[z5v] at h;split at h<;>try (cases h;done)
  rename_i cs e hK;simp only[Option.map_eq_some_iff] at h;obtain⟨m,hm',rfl⟩:=h;obtain⟨rfl, -⟩:=hv.ptr_inv;have hr:=hm.rows K;rw[hK] at hr;obtain⟨vs,g1,g2,g3,g4⟩:=hr
  obtain⟨k1,k2⟩:=z57 (R:=fun x v=>VR I H w x v) (R':=fun y v=>VC (seen I H) w y v) (fun x y v h hv=>zah hm f x y v h hv) hm' (vs:=vs.drop off) (by simp[g2])
   (fun i x v h1 h2=>by rw[List.getElem?_drop] at h1 h2;exact g4 _ x v h1 h2)
  refine .rp m (I.ρ K) off (vs.drop off) (.inr ⟨K,by unfold Owns;rw[hK]⟩) (fun j v hj=> ?_) k1 (fun v hv=>g3 v (List.mem_of_mem_drop hv)) k2;rw[List.getElem?_drop] at hj;rw[cell_of_row w (I.ρ K) (off+j) _ e (0,0) g1];simpa using hj
 |0,.agg l,y,v,h,hv=>by cases h
 |f+1,.agg l,y,v,h,hv=>by simp only[z5v,Option.map_eq_some_iff] at h;obtain⟨m,hm',rfl⟩:=h;obtain⟨vs,rfl,g1,g2,g3⟩:=hv.agg_inv;obtain⟨k1,k2⟩:=z57 (R:=fun x v=>VR I H w x v) (R':=fun y v=>VC (seen I H) w y v) (fun x y v h hv=>zah hm f x y v h hv) hm' g1 g3;exact .agg m vs k1 g2 k2
 |0,.fn g l,y,v,h,hv=>by cases h
 |f+1,.fn g l,y,v,h,hv=>by simp only[z5v,Option.map_eq_some_iff] at h;obtain⟨m,hm',rfl⟩:=h;obtain⟨vs,rfl,g1,g3⟩:=hv.fn_inv;obtain⟨k1,k2⟩:=z57 (R:=fun x v=>VR I H w x v) (R':=fun y v=>VC (seen I H) w y v) (fun x y v h hv=>zah hm f x y v h hv) hm' g1 g3;exact .fn g m vs k1 k2
 |f,.tup l,y,v,h,hv=>by cases f<;>cases h
 |f,.lp K n i j,y,v,h,hv=>by cases f<;>cases h
 |f,.dead,y,v,h,hv=>by cases f<;>cases h
theorem zjb {x:AV}{v:Value}(h:z0v x=true)(hv:VR I H w x v):VR I' H' w' x v:=by
 cases x with
 |sc u=>rw[hv.sc_inv];exact .cl _ _ (.sc _)
 |agg l=>
  obtain⟨vs,rfl,g1,g2,g3⟩:=hv.agg_inv;refine .agg l vs g1 g2 (fun i x v h1 h2=> ?_);have:=List.all_eq_true.1 h x (List.mem_of_getElem? h1)
  cases x with
  |sc u=>rw[(g3 i _ v h1 h2).sc_inv];exact .cl _ _ (.sc _)
  |_=>cases this
 |_=>cases h
theorem zrf {x:AV}{v:Value}(h:z0q x=true)(hv:VR I H w x v):VR I' H' w' x v:=by
 cases x with
 |tup l=>obtain⟨vs,rfl,g1,g3⟩:=hv.tup_inv;exact .tup l vs g1 (fun i x v h1 h2=>zjb (List.all_eq_true.1 h x (List.mem_of_getElem? h1)) (g3 i x v h1 h2))
 |_=>exact zjb h hv
def setI (I I':Itp)(nx m:Nat):Itp where
 ρ:=fun K=>if nx≤K∧K<nx+m then I'.ρ (K - nx) else I.ρ K
 hdr:=fun K=>if nx≤K∧K<nx+m then I'.hdr (K - nx) else I.hdr K
 ow:=fun K=>if nx≤K∧K<nx+m then I'.ow (K - nx) else I.ow K
 S:=I'.S
theorem z30 {rs:List Row}{K:Nat}(h:¬K<rs.length):z00 rs K=.dead:=by unfold z00;rw[List.getD_eq_getElem?_getD,List.getElem?_eq_none (by omega)];rfl
theorem zcr {rs:List Row}{nx K:Nat}(h:K<rs.length):ins H nx (rs.map (z07 nx)) (nx+K)=z07 nx (z00 rs K):=by unfold ins z00;rw[if_pos (by simp only[List.length_map];omega),Nat.add_sub_cancel_left,List.getD_eq_getElem?_getD,List.getElem?_map,List.getD_eq_getElem?_getD,List.getElem?_eq_getElem h];rfl
theorem zf8 {d:Nat}{r:Row}:(z07 d r).len=r.len:=by cases r<;>rfl
theorem z6n {rs:List Row}{nx:Nat}:∀(f:Nat) (x:AV) (v:Value),VR I' (z00 rs) w' x v→VR (setI I I' nx rs.length) (ins H nx (rs.map (z07 nx))) w' (z06 nx f x) v
 |f,.sc u,v,h=>by
  have:z06 nx f (.sc u)=.sc u:=by cases f<;>rfl
  rw[this,h.sc_inv];exact .cl _ _ (.sc _)
 |f,.ro l,v,h=>by
  have:z06 nx f (.ro l)=.ro l:=by cases f<;>rfl
  rw[this];exact .cl _ _ h.ro_inv
 |f,.rp l,v,h=>by
  have:z06 nx f (.rp l)=.rp l:=by cases f<;>rfl
  rw[this];exact .cl _ _ h.rp_inv
 |f,.ptr K off,v,h=>by
  have:z06 nx f (.ptr K off)=.ptr (nx+K) off:=by cases f<;>rfl
  rw[this];obtain⟨rfl,cs,e,hK⟩:=h.ptr_inv;have hlt:K<rs.length:=by apply Decidable.byContradiction;intro hn;rw[z30 hn] at hK;cases hK
  have:=VR.ptr (I:=setI I I' nx rs.length) (H:=ins H nx (rs.map (z07 nx))) (w:=w') (nx+K) off (cs.map (z06 nx 2)) e (by rw[zcr hlt,hK];rfl);simp only[setI] at this;rw[if_pos (by omega),Nat.add_sub_cancel_left] at this;exact this
 |f,.sl K m,v,h=>by
  have:z06 nx f (.sl K m)=.sl (nx+K) m:=by cases f<;>rfl
  rw[this];obtain⟨m',q1,q2,q3⟩:=h.sl_inv;have hlt:K<rs.length:=by apply Decidable.byContradiction;intro hn;rw[z30 hn] at q1;cases q1
  refine .sl (nx+K) m m' v (by rw[zcr hlt,zf8,q1]) q2 (fun e=> ?_);simp only[setI];rw[if_pos (by omega),Nat.add_sub_cancel_left];exact q3 e
 |f,.lp K m i j,v,h=>by
  have:z06 nx f (.lp K m i j)=.lp (nx+K) m i j:=by cases f<;>rfl
  rw[this];obtain⟨m',q1,q2,q3⟩:=h.lp_inv;have hlt:K<rs.length:=by apply Decidable.byContradiction;intro hn;rw[z30 hn] at q1;cases q1
  refine .lp (nx+K) m i j m' v (by rw[zcr hlt,zf8,q1]) q2 (fun sz l e hK hl=> ?_);rw[zcr hlt] at hK;simp only[setI];rw[if_pos (by omega),Nat.add_sub_cancel_left];refine q3 sz l e ?_ hl;cases hh:z00 rs K<;>rw[hh] at hK<;>simp only[z07] at hK<;>first|exact hK|cases hK
 |0,.agg l,v,h=>.dead v
 |f+1,.agg l,v,h=>by
  obtain⟨vs,rfl,g1,g2,g3⟩:=h.agg_inv;refine .agg _ vs (by rw[List.length_map];exact g1) g2 (fun i x v h1 h2=> ?_);rw[List.getElem?_map] at h1
  cases hx:l[i]? with
  |none=>rw[hx] at h1;cases h1
  |some x'=>rw[hx] at h1;cases h1;exact z6n f x' v (g3 i x' v hx h2)
 |0,.tup l,v,h=>.dead v
 |f+1,.tup l,v,h=>by
  obtain⟨vs,rfl,g1,g3⟩:=h.tup_inv;refine .tup _ vs (by rw[List.length_map];exact g1) (fun i x v h1 h2=> ?_);rw[List.getElem?_map] at h1
  cases hx:l[i]? with
  |none=>rw[hx] at h1;cases h1
  |some x'=>rw[hx] at h1;cases h1;exact z6n f x' v (g3 i x' v hx h2)
 |0,.fn g l,v,h=>.dead v
 |f+1,.fn g l,v,h=>by
  obtain⟨vs,rfl,g1,g3⟩:=h.fn_inv;refine .fn g _ vs (by rw[List.length_map];exact g1) (fun i x v h1 h2=> ?_);rw[List.getElem?_map] at h1
  cases hx:l[i]? with
  |none=>rw[hx] at h1;cases h1
  |some x'=>rw[hx] at h1;cases h1;exact z6n f x' v (g3 i x' v hx h2)
 |f,.dead,v,h=>by
  have:z06 nx f .dead=.dead:=by cases f<;>rfl
  rw[this];exact .dead v
end
end Go.Proofs.YtnlacmnoocigiaaGreatDoor.Aw
namespace Go.Proofs.YtnlacmnoocigiaaGreatDoor.Aw
open Go.RowKit
def z5h (P:Program)(t:TypeId):Option (List Value):=
 match P.info? t with
 |some i=>match i.zero with
  |some z=>if zcq z.cells.toList then some z.cells.toList else none
  |none=>none
 |none=>none
def z3t (P:Program)(t:TypeId):Option (TypeId×List Value×Nat):=
 match P.underlying t with
 |some (.slice e)=>match P.info? e with
  |some i=>match i.zero with
   |some z=>if zcq z.cells.toList && z.cells.size==i.size && decide (0<i.size) then some (e,z.cells.toList,i.size) else none
   |none=>none
  |none=>none
 |_=>none
def rep (z:List Value):Nat→List AV
 |0=>[]
 |n+1=>z.map .sc++rep z n
def z09 (sz:Nat):Nat→List AV→List (List AV)
 |0,_=>[]
 |n+1,l=>l.take sz::z09 sz n (l.drop sz)
def z05 :AV→Bool
 |.sc _|.ro _|.rp _=>true
 |_=>false
def qW (P:Program)(sp:Spec)(nx:Nat)(e:Operand→AV)(H:Heap)(o:Oper)(K:AV→List Row→Prop):Prop:=
 match o.op with
 |.alloc t=>match z5h P t with
  |some z=>K (.ptr nx 0) [.var (z.map .sc) t]
  |none=>False
 |.box t x=>z3r H (e x) fun cs=>K (.ptr nx 0) [.var cs t]
 |.build t parts=>z7m P H t (parts.toList.map fun p=>(p.1,e p.2)) fun v=>K v []
 |.buildSlice t len parts=>match z3t P t with
  |some (et,z,sz)=>0<len∧len*sz≤10000∧z0i H (fun i=>some (i*sz,sz)) (rep z len) (parts.toList.map fun p=>(p.1,e p.2)) fun l=>l.all z05=true∧K (.sl nx len) [.lst sz (z09 sz len l) et]
  |none=>False
 |.call c=>match c.callee with
  |.value f=>zax sp nx H (e f) (c.args.toList.map e) K
  |_=>valW P sp H e o.op fun v=>K v []
 |op=>valW P sp H e op fun v=>K v []
def zrg (w0:World)(fp:Nat→Prop)(P:Program)(nx:Nat)(E:Nat→AV)(H:Heap)(o:Oper)(x:AV)(new:List Row):Prop:=
 ∀(S0:Bs) (I:Itp) (n:Nat) (a:Act) (w:World),Rel w0 fp S0 I n E H a w→(∀k,nx≤k→k<nx+new.length→H k=.dead)→∀(K:Act→World→Prop) (Q:Exit→Act→World→Prop),
  (∀v w' I',VR I' (ins H nx new) w' x v→Mem w0 fp S0 I' (ins H nx new) w'→(∀y u,VR I H w y u→VR I' (ins H nx new) w' y u)→K (a.put o.dst v) w')→o.wp P a w K Q
def QOk (P:Program)(nx:Nat)(E:Nat→AV)(H:Heap)(o:Oper)(x:AV)(new:List Row):Prop:=∀(w0:World) (fp:Nat→Prop),zrg w0 fp P nx E H o x new
section
variable {P : Program} {sp : Spec} {w0 w w' : World} {fp : Nat → Prop} {S0 : Bs} {I I' : Itp} {H H' : Heap} {n nx : Nat} {E : Nat → AV} {a : Act}
theorem z3f {x:AV}{K:List AV→Prop}(h:z3r H x K):∃l,K l∧∀K':List AV→Prop,K' l→z3r H x K':=by
 unfold z3r at*;split at h
 · exact⟨_,h,fun K' h'=>h'⟩
 · exact⟨_,h.2,fun K' h'=>⟨h.1,h'⟩⟩
theorem z8h {plc:Nat→Option (Nat×Nat)}:∀{parts:List (Nat×AV)} {cells:List AV} {K:List AV→Prop},z0i H plc cells parts K→∃l,K l∧∀K':List AV→Prop,K' l→z0i H plc cells parts K'
 |[],cells,K,h=>⟨cells,h,fun K' h'=>h'⟩
 |(i,x)::rest,cells,K,h=>by
  simp only[z0i] at h
  cases hp:plc i with
  |none=>rw[hp] at h;exact h.elim
  |some os=>obtain⟨off,size⟩:=os;rw[hp] at h;simp only at h;obtain⟨l,⟨h1,h2,h3⟩,h4⟩:=z3f h;obtain⟨l2,h5,h6⟩:=z8h h3;exact⟨l2,h5,fun K' hK=>by simp only[z0i,hp];exact h4 _ ⟨h1,h2,h6 K' hK⟩⟩
theorem z99 {t:TypeId}{parts:List (Nat×AV)}{K:AV→Prop}(h:z7m P H t parts K):∃x,K x∧z7m P H t parts (· =x):=by
 unfold z7m at*;split at h<;>try exact h.elim
 obtain⟨l,h1,h2⟩:=z8h h;exact⟨_,h1,h2 _ rfl⟩
theorem zmy {f:AV}{args:List AV}{K:AV→List Row→Prop}(h:zax sp nx H f args K):∃x new,K x new∧zax sp nx H f args fun x' new'=>x'=x∧new'=new:=by
 unfold zax callee at*
 have key:∀(g:FuncId) (cap:List AV),(match mapO (z0a 3) (args++cap) with
  |some l=>match sp.call g l with
   |some (c,r,rs)=>c∧K (z06 nx 3 r) (rs.map (z07 nx))
   |none=>False
  |none=>match mapO (z5v H 4) (args++cap) with
   |some l=>match sp.call g l with
    |some (c,r,rs)=>c∧z0q r=true∧K r []
    |none=>False
   |none=>False)→∃x new,K x new∧(match mapO (z0a 3) (args++cap) with
  |some l=>match sp.call g l with
   |some (c,r,rs)=>c∧(z06 nx 3 r=x∧rs.map (z07 nx)=new)
   |none=>False
  |none=>match mapO (z5v H 4) (args++cap) with
   |some l=>match sp.call g l with
    |some (c,r,rs)=>c∧z0q r=true∧(r=x∧[]=new)
    |none=>False
   |none=>False):=by
  intro g cap h;split at h
  · split at h<;>first|exact h.elim|exact⟨_,_,h.2,h.1,rfl,rfl⟩
  · split at h<;>try exact h.elim
    split at h<;>first|exact h.elim|exact⟨_,_,h.2.2,h.1,h.2.1,rfl,rfl⟩
 split at h<;>try exact h.elim
 · obtain⟨h1,h2,h3⟩:=h;obtain⟨x,new,k1,k2⟩:=key _ _ h3;exact⟨x,new,k1,h1,h2,k2⟩
 · exact key _ _ h
theorem zmz {e:Operand→AV}{o:Oper}{K:AV→List Row→Prop}(h:qW P sp nx e H o K):∃x new,K x new∧qW P sp nx e H o fun x' new'=>x'=x∧new'=new:=by
 have val:∀op,valW P sp H e op (fun v=>K v [])→∃x new,K x new∧valW P sp H e op fun x'=>x'=x∧[]=new:=fun op h=>by
  obtain⟨x,h1,h2⟩:=z7d h;refine⟨x,[],h1, ?_⟩;have e:(fun x'=>x'=x∧([]:List Row)=[])=(fun x':AV=>x'=x):=by funext x';simp
  rw[e];exact h2
 unfold qW at*;split at h
 · split at h<;>first|exact h.elim|exact⟨_,_,h,rfl,rfl⟩
 · obtain⟨l,h1,h2⟩:=z3f h;exact⟨_,_,h1,h2 _ ⟨rfl,rfl⟩⟩
 · obtain⟨x,h1,h2⟩:=z99 h;refine⟨x,[],h1, ?_⟩;have e:(fun x'=>x'=x∧([]:List Row)=[])=(fun x':AV=>x'=x):=by funext x';simp
   rw[e];exact h2
 · split at h<;>try exact h.elim
   obtain⟨k1,k2,k3⟩:=h;obtain⟨l,⟨h1,h2⟩,h3⟩:=z8h k3;exact⟨_,_,h2,k1,k2,h3 _ ⟨h1,rfl,rfl⟩⟩
 · split at h
   · exact zmy h
   · exact val _ h
 · exact val _ h
theorem yl_q {o:Oper}{x:AV}(h:∀w0 fp S0 I n a w,Rel w0 fp S0 I n E H a w→∃v,(execOp a.eval o).run P w=.ok (.value v) w∧VR I H w x v):QOk P nx E H o x []:=by intro w0 fp S0 I n a w hR hd K Q hK;obtain⟨v,h1,h2⟩:=h w0 fp S0 I n a w hR;unfold Oper.wp;rw[h1];rw[z98] at hK;exact hK v w I h2 hR.mem (fun y u hu=>hu)
theorem zn0 (hR:Rel w0 fp S0 I n E H a w)(l:List Operand):(l.map (evA E)).length=(l.map a.eval).length∧∀(i:Nat) x v,(l.map (evA E))[i]? =some x→(l.map a.eval)[i]? =some v→VR I H w x v:=by
 refine⟨by simp,fun i x v h1 h2=> ?_⟩;rw[List.getElem?_map] at h1 h2
 cases hl:l[i]? with
 |none=>rw[hl] at h1;cases h1
 |some y=>rw[hl] at h1 h2;cases h1;cases h2;exact z2h hR y
theorem zux (h:Mem w0 fp S0 I H w){x r:AV}{v:Value}(hk:nilW H x (· =r))(hx:VR I H w x v):VR I H w r v∧((∃a,v=.pointer (some a))∨∃f fi c,v=.func (.func f) fi c):=by
 unfold nilW at hk;split at hk<;>try exact hk.elim
 · subst hk;exact⟨hx,.inl ⟨_,hx.ptr_inv.1⟩⟩
 · subst hk;obtain⟨g,o,rfl⟩:=zhp hx.rp_inv;exact⟨hx,.inl ⟨_,rfl⟩⟩
 · rename_i K' n i j;split at hk<;>try exact hk.elim
   rename_i sz l e hK;obtain⟨h1,rfl⟩:=hk;obtain⟨m,q1,q2,q3⟩:=hx.lp_inv;obtain⟨g,off,c, -,rfl⟩:=q3 sz l e hK h1;exact⟨hx,.inl ⟨_,rfl⟩⟩
 · subst hk;obtain⟨vs,rfl, -⟩:=hx.fn_inv;exact⟨hx,.inr ⟨_,_,_,rfl⟩⟩
 · subst hk;rw[hx.sc_inv];exact⟨VR.scv _,.inl ⟨_,rfl⟩⟩
 · subst hk;rw[hx.sc_inv];exact⟨VR.scv _,.inr ⟨_,_,_,rfl⟩⟩
theorem zn1 (hsp:zrc P sp){o:Oper}{x:AV}(h:valW P sp H (evA E) o.op (· =x)):QOk P nx E H o x []:=by
 refine yl_q fun w0 fp S0 I n a w hR=> ?_;have ev:=fun y=>z2h hR y;obtain⟨dst,op,type,pos,after,guard⟩:=o;unfold valW at h;simp only at h;split at h<;>try exact h.elim
 · subst h;exact⟨_,by simp only[execOp];rfl,ev _⟩
 · subst h;exact⟨_,by simp only[execOp];rfl,ev _⟩
 · rename_i c p q;split at h<;>try exact h.elim
   rename_i t ht;have hc:=ev c;rw[ht] at hc;subst h
   cases t with
   |true=>exact⟨_,by simp[execOp,hc.sc_inv,asBool,Sem.run_bind],ev p⟩
   |false=>exact⟨_,by simp[execOp,hc.sc_inv,asBool,Sem.run_bind],ev q⟩
 · rename_i t p;obtain⟨cs,g,o,vs,k1,k2,k3,k4,k5,k6⟩:=zf7 hR.mem h (ev p);obtain⟨x',v,q1,q2,q3⟩:=zj8 (P:=P) k1 k3 k4 k5 k6;subst q1;exact⟨v,by simp only[execOp,k2,Sem.run_bind,q2,Result.andThen_ok];rfl,q3⟩
 · rename_i s y f;obtain⟨u,q1,q2⟩:=zdq hR.mem h (ev y);exact⟨u,by simp only[execOp,Sem.run_bind,q1,Result.andThen_ok];rfl,q2⟩
 · rename_i t y ix;obtain⟨u,q1,q2⟩:=zdr hR.mem h (ev y) (ev ix);exact⟨u,by simp only[execOp,Sem.run_bind,q1,Result.andThen_ok];rfl,q2⟩
 · rename_i t y f;obtain⟨u,q1,q2⟩:=zmt h (ev y);exact⟨u,by simp only[execOp,Sem.run_bind,q1,Result.andThen_ok];rfl,q2⟩
 · rename_i t y ix;obtain⟨u,q1,q2⟩:=zmu h (ev y) (ev ix);exact⟨u,by simp only[execOp,Sem.run_bind,q1,Result.andThen_ok];rfl,q2⟩
 · rename_i t i;split at h<;>try exact h.elim
   rename_i l hl;split at h<;>try exact h.elim
   rename_i x' hx;subst h;have ht:=ev t;rw[hl] at ht;obtain⟨vs,q1,q2,q3⟩:=ht.tup_inv;have hlt:i<vs.length:=by rw[←q2];exact(List.getElem?_eq_some_iff.1 hx).1
   exact⟨vs[i],by simp[execOp,q1,Instr.extract,Sem.run_bind,hlt],q3 i _ _ hx (List.getElem?_eq_getElem hlt)⟩
 · rename_i y;obtain⟨q1,q2⟩:=zux hR.mem h (ev y);refine⟨_, ?_,q1⟩;rcases q2 with ⟨ad,e⟩|⟨f,fi,c,e⟩<;>simp only[execOp,e]<;>rfl
 · rename_i op t y;obtain⟨u,q1,q2⟩:=zwy (P:=P) h (ev y);exact⟨u,by simp only[execOp,Sem.run_bind,q1,Result.andThen_ok];rfl,q2⟩
 · rename_i op t y z yt;obtain⟨u,q1,q2⟩:=zus hsp (x:=y) (y:=z) h (ev y) (ev z);exact⟨u,by simp only[execOp,Sem.run_bind] at q1⊢;rw[q1];rfl,q2⟩
 · rename_i s d y;obtain⟨u,q1,q2⟩:=zrd h (ev y);exact⟨u,by simp only[execOp,Sem.run_bind,q1,Result.andThen_ok];rfl,q2⟩
 · rename_i t y lo hi mx;obtain⟨rfl,h⟩:=h
   obtain⟨u,q1,q2⟩:=zmv (lv:=lo.map a.eval) (hv:=hi.map a.eval) h (ev y)
    (fun x v h1 h2=>by cases lo<;>simp at h1 h2;subst h1;subst h2;exact ev _) (by simp)
    (fun x v h1 h2=>by cases hi<;>simp at h1 h2;subst h1;subst h2;exact ev _) (by simp)
   exact⟨u,by simp only[execOp,Option.map_none,Sem.run_bind,q1,Result.andThen_ok];rfl,q2⟩
 · rename_i fn first cap
   split at h<;>try exact h.elim
   rename_i f;obtain⟨h0,rfl⟩:=h;obtain⟨k1,k2⟩:=zn0 hR cap.toList;have hf:first.map a.eval= #[]:=Array.eq_empty_of_size_eq_zero (by simpa using h0)
   refine⟨.func (.func f) #[] (cap.map a.eval),by simp only[execOp,Instr.makeFunc,hf];rfl, ?_⟩;have he:(cap.toList.map a.eval).toArray=cap.map a.eval:=by rw[←Array.toList_map,Array.toArray_toList]
   have:=VR.fn (I:=I) (H:=H) (w:=w) f _ _ k1 k2;rw[he] at this;exact this
 · rename_i c;split at h<;>try exact h.elim
   rename_i hcal;split at h<;>try exact h.elim
   rename_i y t hargs hty;obtain⟨u,q1,q2⟩:=zuv (ty:=type) hR.mem h (ev y);have e1:c.args= #[y]:=by rw[←Array.toArray_toList (xs:=c.args),hargs]
   have e2:c.argTypes= #[t]:=by rw[←Array.toArray_toList (xs:=c.argTypes),hty]
   exact⟨u,by simp only[execOp,resolve,hcal,e1,e2,List.map_toArray,List.map_cons,List.map_nil,Sem.run_bind,Sem.run_pure,Result.andThen_ok,invoke,builtin,q1],q2⟩
theorem zcs (w:World)(e:TypeId)(cells:Array Value):(newRow e cells).run P w=.ok ⟨w.heap.size,0,none⟩ (w.alloc (.cells cells e)):=by rfl
theorem zu9 {o:Oper}{t:TypeId}{cs:List AV}(h:∀w0 fp S0 I n a w,Rel w0 fp S0 I n E H a w→∃vs:List Value,(execOp a.eval o).run P w=.ok (.value (.pointer (some ⟨w.heap.size,0,none⟩))) (w.alloc (.cells vs.toArray t))∧CR I H w cs vs):QOk P nx E H o (.ptr nx 0) [.var cs t]:=by intro w0 fp S0 I n a w hR hd K Q hK;obtain⟨vs,h1,h2⟩:=h w0 fp S0 I n a w hR;obtain⟨m1,m2,m3⟩:=hR.mem.box (K:=nx) (hd nx (Nat.le_refl _) (by simp)) cs vs t h2.len h2.one h2.ok;unfold Oper.wp;rw[h1];rw[zhq] at hK;exact hK _ _ _ m3 m1 (fun y u hu=>m2 hu)
theorem zua {z:List Value}(h:zcq z=true):∀n:Nat,CR I H w (rep z n) ((List.replicate n z).flatten)
 |0=>⟨rfl,fun v hv=>by simp at hv,fun i x v h=>by simp[rep] at h⟩
 |n+1=>by
  have ih:=zua h n;have h0:=z8g (I:=I) (H:=H) (w:=w) h;rw[List.replicate_succ,List.flatten_cons];refine⟨by simp only[rep,List.length_append,ih.len,h0.len],fun v hv=> ?_,fun i x v h1 h2=> ?_⟩
  · rcases List.mem_append.1 hv with hv|hv
    · exact h0.one v hv
    · exact ih.one v hv
  · simp only[rep] at h1;by_cases hi:i<z.length
    · rw[List.getElem?_append_left (by simpa using hi)] at h1;rw[List.getElem?_append_left hi] at h2;exact h0.ok i x v h1 h2
    · rw[List.getElem?_append_right (by simpa using hi)] at h1;rw[List.getElem?_append_right (by simpa using hi)] at h2;rw[List.length_map] at h1;exact ih.ok _ x v h1 h2
theorem zf9 {S:Nat→Prop}{sz:Nat}(hz:0<sz):∀(n:Nat) (l:List AV) (vs:List Value),l.length=n*sz→l.length=vs.length→(∀v∈vs,v.oneCell'=true)→(∀(i:Nat) x v,l[i]? =some x→vs[i]? =some v→VC S w x v)→
 ∃cs:List (Vec sz),cs.length=n∧(vecC sz hz).flat cs=vs∧Elems S w sz (z09 sz n l) cs
 |0,l,vs,hl,hv,h1,hc=>by have:vs=[]:=List.eq_nil_of_length_eq_zero (by omega);subst this;exact⟨[],rfl,rfl,rfl,fun i e h=>by simp[z09] at h,fun i j e c x v h=>by simp[z09] at h⟩
 |n+1,l,vs,hl,hv,h1,hc=>by
  have hl':l.length=n*sz+sz:=by rw[hl,Nat.add_mul,Nat.one_mul]
  obtain⟨cs,g1,g2,g3⟩:=zf9 hz n (l.drop sz) (vs.drop sz) (by rw[List.length_drop];omega) (by simp[hv]) (fun v hv=>h1 v (List.mem_of_mem_drop hv)) (fun i x v a b=>by rw[List.getElem?_drop] at a b;exact hc _ x v a b);obtain⟨c0,hc0⟩:∃c:Vec sz,c.1=vs.take sz:=⟨⟨vs.take sz,by rw[List.length_take];omega,fun u hu=>h1 u (List.mem_of_mem_take hu)⟩,rfl⟩;refine⟨c0::cs,by simp[g1], ?_, ?_, ?_, ?_⟩
  · rw[Cod.flat_cons,g2];show c0.1++_=_;rw[hc0];exact List.take_append_drop sz vs
  · simp only[z09,List.length_cons,g3.len]
  · intro i e h
    cases i with
    |zero=>simp[z09] at h;rw[←h,List.length_take];omega
    |succ i=>exact g3.wide i e (by simpa [z09] using h)
  · intro i j e c x v a1 a2 a3 a4
    cases i with
    |zero=>
     simp[z09] at a1 a2;subst a1;subst a2;rw[hc0] at a4;rw[List.getElem?_take] at a3 a4;split at a3
     · rename_i hj;rw[if_pos hj] at a4;exact hc j x v a3 a4
     · cases a3
    |succ i=>exact g3.ok i j e c x v (by simpa [z09] using a1) (by simpa using a2) a3 a4
theorem zn2 (z:List Value)(hz:0<z.length):∀n:Nat,((List.range (n*z.length)).map fun i=>z[i % z.length]!)=(List.replicate n z).flatten
 |0=>by simp
 |n+1=>by
  rw[List.replicate_succ',List.flatten_append,←zn2 z hz n,Nat.add_mul,Nat.one_mul,List.range_add,List.map_append];congr 1;simp only[List.flatten_cons,List.flatten_nil,List.append_nil,List.map_map];apply List.ext_getElem
  · simp
  · intro i h1 h2;simp at h1;simp[Nat.mod_eq_of_lt h1,List.getElem?_eq_getElem h1]
theorem zjc {plc:Nat→Option (Nat×Nat)}:∀{parts:List (Nat×Value)} {cells us:Array Value},Instr.fill plc cells parts=some us→us.size=cells.size
 |[],cells,us,h=>by cases h;rfl
 |(i,v)::rest,cells,us,h=>by
  unfold Instr.fill at h;split at h
  · cases h
  · split at h
    · cases h
    · rw[zjc h]
      have gen:∀(l:List (Value×Nat)) (off:Nat) (cs:Array Value),(l.foldl (fun cs (x:Value×Nat)=>cs.setIfInBounds (off+x.2) x.1) cs).size=cs.size:=by
       intro l
       induction l with
       |nil=>intro off cs;rfl
       |cons x l ih=>intro off cs;rw[List.foldl_cons,ih,Array.size_setIfInBounds]
      rw[←Array.foldl_toList];exact gen _ _ _
theorem zdu {o:Oper}{t et:TypeId}{len sz:Nat}{parts:Array (Nat×Operand)}{z:List Value}{l:List AV}(ho:o.op=.buildSlice t len parts)(hs:z3t P t=some (et,z,sz))(h0:0<len)(hb:len*sz≤10000)
 (hf:z0i H (fun i=>some (i*sz,sz)) (rep z len) (parts.toList.map fun p=>(p.1,evA E p.2)) (· =l)) (hc:l.all z05=true):QOk P nx E H o (.sl nx len) [.lst sz (z09 sz len l) et]:=by
 intro w0 fp S0 I n a w hR hd K Q hK;unfold z3t at hs;split at hs<;>try (cases hs;done)
 rename_i e hu;split at hs<;>try (cases hs;done)
 rename_i i hi;split at hs<;>try (cases hs;done)
 rename_i zv hz;split at hs<;>cases hs;rename_i hcond;simp only[Bool.and_eq_true,beq_iff_eq,decide_eq_true_eq] at hcond;obtain⟨⟨q1,q2⟩,q3⟩:=hcond;have hzl:zv.cells.toList.length=i.size:=by rw[Array.length_toList,q2]
 have hrep:=zua (I:=I) (H:=H) (w:=w) q1 len
 have hmod:((Array.range (len*i.size)).map (zv.cells[· % zv.cells.size]!)).toList=(List.replicate len zv.cells.toList).flatten:=by
  rw[←zn2 zv.cells.toList (by omega) len,Array.toList_map,Array.toList_range,hzl];apply List.map_congr_left;intro k hk;have:k % i.size<zv.cells.size:=by rw[q2];exact Nat.mod_lt _ q3
  rw[q2,getElem!_pos zv.cells _ this,getElem!_pos zv.cells.toList _ (by simpa using this)];simp
 obtain⟨l',us,rfl,g2,g3⟩:=zag hR.mem hf (vs:=(Array.range (len*i.size)).map (zv.cells[· % zv.cells.size]!)) (by rw[hmod];exact hrep) (vparts:=(parts.map fun(i,x)=>(i,a.eval x)).toList) (by simp)
  (fun j p q h1 h2=>by
   rw[List.getElem?_map] at h1;rw[Array.toList_map,List.getElem?_map] at h2
   cases hp:parts.toList[j]? with
   |none=>rw[hp] at h1;cases h1
   |some pp=>rw[hp] at h1 h2;cases h1;cases h2;exact⟨rfl,z2h hR _⟩)
 have hul:us.size=len*i.size:=by have:=zjc g2;simpa using this
 have hll:l'.length=len*i.size:=by rw[g3.len,Array.length_toList,hul]
 have hcl:∀(i:Nat) x v,l'[i]? =some x→us.toList[i]? =some v→VC I.S w x v:=fun i x v h1 h2=>by
  have hx:=List.all_eq_true.1 hc x (List.mem_of_getElem? h1);have:=g3.ok i x v h1 h2
  cases x with
  |sc u=>rw[this.sc_inv];exact .sc _
  |ro l=>exact this.ro_inv
  |rp l=>exact this.rp_inv
  |_=>cases hx
 obtain⟨cs,c1,c2,c3⟩:=zf9 (S:=I.S) (w:=w) q3 len l' us.toList hll g3.len g3.one hcl;have hown:=Own.made (vecC i.size q3) w et us cs len h0 (by omega) (by simp only[maxLen];have:=Nat.le_mul_of_pos_right len q3;omega) (by show len*i.size≤us.size;omega) (by rw[c2,c1];exact List.take_of_length_le (by rw[Array.length_toList,hul];exact Nat.le_refl _));rw[c1] at hown;obtain⟨m1,m2,m3⟩:=hR.mem.list (K:=nx) (hd nx (Nat.le_refl _) (by simp)) (Fr.alloc (Fr.refl _ _) _) q3 hown (fun k hk=>by cases hk;exact⟨Nat.le_refl _,by simp⟩) c3;have hlc:(z09 i.size len l').length=len:=by rw[c3.len,c1]
 rw[hlc] at m3;refine wp_buildSlice t et len parts ho us i zv hu hi hz (by omega) (by have:=Nat.mul_pos h0 q3;omega) g2 ?_;rw[zhq] at hK;exact hK _ _ _ m3 m1 (fun y u hu=>m2 hu)
end
end Go.Proofs.YtnlacmnoocigiaaGreatDoor.Aw
namespace Go.Proofs.YtnlacmnoocigiaaGreatDoor.Aw
open Go.RowKit
section
variable {P : Program} {sp : Spec} {w0 w w' : World} {fp : Nat → Prop} {S0 : Bs} {I I' : Itp} {H H' : Heap} {n nx : Nat} {E : Nat → AV} {a : Act}
theorem Mem.call (h:Mem w0 fp S0 I H w){rs:List Row}(h':Mem w (fun _=>False) ⟨I.S,[]⟩ I' (z00 rs) w')(hd:∀k,nx≤k→k<nx+rs.length→H k=.dead):
 Mem w0 fp S0 (setI I I' nx rs.length) (ins H nx (rs.map (z07 nx))) w'∧∀{x:AV} {v:Value},VR I H w x v→VR (setI I I' nx rs.length) (ins H nx (rs.map (z07 nx))) w' x v:=by
 have hf:Fr (fun _=>False) w w':=h'.fr;have hout:∀K,¬(nx≤K∧K<nx+rs.length)→ins H nx (rs.map (z07 nx)) K=H K:=fun K hK=>by unfold ins;rw[if_neg (by rw[List.length_map];exact hK)]
 have hown:∀q k,q<rs.length→Owns (setI I I' nx rs.length) (ins H nx (rs.map (z07 nx))) (nx+q) k→Owns I' (z00 rs) q k:=fun q k hq hk=>by
  unfold Owns at hk⊢;rw[zcr hq] at hk;cases hr:z00 rs q<;>rw[hr] at hk<;>simp only[z07,setI] at hk⊢<;>try exact hk.elim
  · rw[if_pos (by omega),Nat.add_sub_cancel_left] at hk;exact hk
  · rw[if_pos (by omega),Nat.add_sub_cancel_left] at hk;exact hk
 refine h.step (I':=setI I I' nx rs.length) (H':=ins H nx (rs.map (z07 nx))) (fun K=>nx≤K∧K<nx+rs.length) (hf.mono (fun _ h=>h.elim)) h'.s0 (fun k hk=> ?_) (fun k h1 h2 K hn hk=> ?_) (fun K hn=> ?_) (fun K hT=> ?_) (fun hv K hT=> ?_) (fun K k hT hk=> ?_) (fun K K' k hT hT' hk hk'=> ?_)
 · rcases h'.snew k hk with h1|h1
   · exact .inl h1
   · exact .inr ⟨h'.slt k hk,.inl h1⟩
 · rcases h'.snew k h1 with h3|h3
   · exact h2 h3
   · have:=(h.own K k hk).1;omega
 · simp only[setI];exact⟨hout K hn,if_neg hn,if_neg hn,if_neg hn⟩
 · unfold Goes;rw[hd K hT.1 hT.2];trivial
 · obtain⟨q,rfl⟩:∃q,K=nx+q:=⟨K - nx,by omega⟩;have hq:q<rs.length:=by omega
   rw[zcr hq];have hr:=h'.rows q
   cases hh:z00 rs q with
   |dead=>trivial
   |fro l=>rw[hh] at hr;show VC I'.S w' (.ro l) ((setI I I' nx rs.length).hdr (nx+q));simp only[setI];rw[if_pos (by omega),Nat.add_sub_cancel_left];exact hr
   |var cs e=>
    rw[hh] at hr;obtain⟨vs,g1,g2,g3,g4⟩:=hr;refine⟨vs, ?_,by rw[List.length_map];exact g2,g3,fun i x v h1 h2=> ?_⟩
    · simp only[setI];rw[if_pos (by omega),Nat.add_sub_cancel_left];exact g1
    · rw[List.getElem?_map] at h1
      cases hx:cs[i]? with
      |none=>rw[hx] at h1;cases h1
      |some x'=>rw[hx] at h1;cases h1;exact z6n 2 x' v (g4 i x' v hx h2)
   |lst sz l e=>rw[hh] at hr;obtain⟨hz,cs,g1,g2⟩:=hr;refine⟨hz,cs, ?_,g2⟩;simp only[setI];rw[if_pos (by omega),if_pos (by omega),Nat.add_sub_cancel_left];exact g1
 · obtain⟨q,rfl⟩:∃q,K=nx+q:=⟨K - nx,by omega⟩;obtain⟨h1,h2,h3⟩:=h'.own q k (hown q k (by omega) hk);exact⟨.inr (h3.resolve_left (fun h=>h)),h1,h2⟩
 · obtain⟨q,rfl⟩:∃q,K=nx+q:=⟨K - nx,by omega⟩;obtain⟨q',rfl⟩:∃q',K'=nx+q':=⟨K' - nx,by omega⟩;rw[h'.sep q q' k (hown q k (by omega) hk) (hown q' k (by omega) hk')]
theorem z7n {g:FuncId}(h:za0 P g)(args:Array Value)(w:World):(callFunc g args).run P w=.ok (.enter g args) w:=by
 obtain⟨fn,h1,h2,h3⟩:=h;have h2':¬fn.name= "runtime.NumGoroutine" :=by simpa using h2
 have h3':¬fn.body=none:=by intro e;rw[e] at h3;cases h3
 simp[callFunc,Sem.run_bind,h1,h2',h3']
theorem zfa {f:AV}{fv:Value}{args:Array Value}{K:FuncId→List AV→Prop}(hk:callee f K)(hf:VR I H w f fv):
 ∃(g:FuncId) (cap:List AV) (vs:List Value),K g cap∧cap.length=vs.length∧(∀(i:Nat) x v,cap[i]? =some x→vs[i]? =some v→VR I H w x v)∧(Deferred.ofValue fv args).run P w=.ok {target:=.fn (.func g) vs.toArray,args} w:=by
 unfold callee at hk;split at hk<;>try exact hk.elim
 · rename_i g fi c;obtain⟨h1,h2,h3⟩:=hk;have e1:fi= #[]:=Array.eq_empty_of_size_eq_zero h1;have e2:c= #[]:=Array.eq_empty_of_size_eq_zero h2;rw[hf.sc_inv,e1,e2];exact⟨g,[],[],h3,rfl,fun i x v h=>by simp at h,by simp[Deferred.ofValue]⟩
 · rename_i g c;obtain⟨vs,rfl,q1,q3⟩:=hf.fn_inv;exact⟨g,c,vs,hk,q1,q3,by simp[Deferred.ofValue]⟩
theorem zrh (hsp:SpecOk P sp w0 fp){o:Oper}{c:Call}{f:Operand}{x:AV}{new:List Row}(ho:o.op=.call c)(hc:c.callee=.value f)(h:zax sp nx H (evA E f) (c.args.toList.map (evA E)) fun x' new'=>x'=x∧new'=new):zrg w0 fp P nx E H o x new:=by
 intro S0 I n a w hR hd K Q hK;obtain⟨g,cap,vs,hk,hl,hv,hrun⟩:=zfa (P:=P) (args:=c.args.map a.eval) h (z2h hR f);obtain⟨m1,m2⟩:=zn0 hR c.args.toList;have hargs:(c.args.toList.map (evA E)++cap).length=(c.args.toList.map a.eval++vs).length:=by rw[List.length_append,List.length_append,m1,hl]
 have hargv:∀(i:Nat) x v,(c.args.toList.map (evA E)++cap)[i]? =some x→(c.args.toList.map a.eval++vs)[i]? =some v→VR I H w x v:=fun i x v h1 h2=>by
  by_cases hi:i<(c.args.toList.map (evA E)).length
  · rw[List.getElem?_append_left hi] at h1;rw[List.getElem?_append_left (by rw[←m1];exact hi)] at h2;exact m2 i x v h1 h2
  · rw[List.getElem?_append_right (by omega)] at h1;rw[List.getElem?_append_right (by rw[←m1];omega),←m1] at h2;exact hv _ x v h1 h2
 have he:∀(K':FuncId→Prop),True:=fun _=>trivial
 have hwp:∀{R:Ending→World→Prop},za0 P g→Calls P g (c.args.toList.map a.eval++vs).toArray w R→(∀e w'',R e w''→match e with
  |.returned v=>K (a.put o.dst v) w''
  |.panicked chain=>Q (.panic chain) a w''
  |.outgrown=>LetsOut Q)→o.wp P a w K Q:=fun {R} hen hcalls hR'=>by
  unfold Oper.wp execOp;simp only[ho,Sem.run_bind,resolve,hc];rw[hrun];simp only[Result.andThen_ok,invoke];rw[z7n hen];have e1:c.args.map a.eval++vs.toArray=(c.args.toList.map a.eval++vs).toArray:=by rw[←List.append_toArray];congr 1;rw[←Array.toList_map,Array.toArray_toList]
  rw[e1];show Calls P g _ w _;refine hcalls.mono fun e w'' hh=> ?_;have:=hR' e w'' hh;cases e<;>exact this
 split at hk
 · rename_i l hm;split at hk<;>try exact hk.elim
   rename_i cnd r rs hs;obtain⟨hcnd,rfl,rfl⟩:=hk;obtain⟨hen,hcon⟩:=hsp.call _ _ _ _ _ hs;obtain⟨k1,k2⟩:=z57 (R:=fun x v=>VR I H w x v) (R':=fun y v=>VC I.S w y v) (fun x y v h hv=>zay 3 x y v h hv) hm hargs hargv;refine hwp hen (hcon hcnd w hR.mem.fr I.S _ hR.mem.slt k1 k2) (fun e w'' ⟨v,I',he,hm',hv'⟩=> ?_);subst he;have hd':∀k,nx≤k→k<nx+rs.length→H k=.dead:=fun k h1 h2=>hd k h1 (by rw[List.length_map];exact h2);obtain⟨q1,q2⟩:=hR.mem.call hm' hd';exact hK v w'' _ (z6n 3 r v hv') q1 (fun y u hu=>q2 hu)
 · split at hk<;>try exact hk.elim
   rename_i l hm;split at hk<;>try exact hk.elim
   rename_i cnd r rs hs;obtain⟨hcnd,hfl,rfl,rfl⟩:=hk;obtain⟨hen,hcon⟩:=hsp.call _ _ _ _ _ hs;obtain⟨k1,k2⟩:=z57 (R:=fun x v=>VR I H w x v) (R':=fun y v=>VC (seen I H) w y v) (fun x y v h hv=>zah hR.mem 4 x y v h hv) hm hargs hargv
   have hseen:∀k,seen I H k→k<w.heap.size:=fun k hk=>by
    rcases hk with hk|⟨K,hk⟩
    · exact hR.mem.slt k hk
    · exact(hR.mem.own K k hk).1
   refine hwp hen (hcon hcnd w hR.mem.fr (seen I H) _ hseen k1 k2) (fun e w'' ⟨v,I',he,hm',hv'⟩=> ?_);subst he;obtain⟨q1,q2⟩:=hR.mem.quiet hm'.fr;rw[z98] at hK;exact hK v w'' I (zrf hfl hv') q1 (fun y u hu=>q2 hu)
theorem q_ok (hsp:SpecOk P sp w0 fp){o:Oper}{x:AV}{new:List Row}(h:qW P sp nx (evA E) H o fun x' new'=>x'=x∧new'=new):zrg w0 fp P nx E H o x new:=by
 have go:∀{y:AV} {nw:List Row},QOk P nx E H o y nw→zrg w0 fp P nx E H o y nw:=fun h=>h w0 fp;unfold qW at h;split at h
 · rename_i t ho;split at h<;>try exact h.elim
   rename_i z hz;obtain⟨rfl,rfl⟩:=h;unfold z5h at hz;split at hz<;>try (cases hz;done)
   rename_i i hi;split at hz<;>try (cases hz;done)
   rename_i zv hzv;split at hz<;>cases hz;rename_i h1;refine go<|zu9 fun w0 fp S0 I n a w hR=>⟨zv.cells.toList, ?_,z8g h1⟩
   simp[execOp,ho,Instr.alloc,zeroValue,typeInfo,hi,hzv,Sem.run_bind,newVar,zcs]
 · rename_i t y ho;obtain⟨cs,h1,h2⟩:=z3f h;obtain⟨rfl,rfl⟩:=h1;refine go<|zu9 fun w0 fp S0 I n a w hR=> ?_
   obtain⟨l,vs,rfl,g1,g2,g3,g4⟩:=z8c hR.mem (h2 (· =cs) rfl) (z2h hR y);exact⟨vs,by simp[execOp,ho,Instr.box,Sem.run_bind,newVar,zcs,g1],g2,g3,g4⟩
 · rename_i t parts ho;obtain⟨r,⟨rfl,rfl⟩,h2⟩:=z99 h;refine go<|yl_q fun w0 fp S0 I n a w hR=> ?_
   obtain⟨z,q1,q2⟩:=zmw (P:=P) hR.mem (vparts:=parts.map fun(i,x)=>(i,a.eval x)) h2 (by simp) (fun j p q g1 g2=>by
    rw[List.getElem?_map] at g1;rw[Array.getElem?_map] at g2;rw[Array.getElem?_toList] at g1
    cases hp:parts[j]? with
    |none=>rw[hp] at g1;cases g1
    |some pp=>rw[hp] at g1 g2;cases g1;cases g2;exact⟨rfl,z2h hR _⟩)
   exact⟨z,by simp only[execOp,ho,Sem.run_bind,q1,Result.andThen_ok];rfl,q2⟩
 · rename_i t len parts ho;split at h<;>try exact h.elim
   rename_i et z sz hs;obtain⟨k1,k2,k3⟩:=h;obtain⟨l,⟨h1,rfl,rfl⟩,h3⟩:=z8h k3;exact go<|zdu ho hs k1 k2 (h3 _ rfl) h1
 · rename_i c ho;split at h
   · rename_i f hc;exact zrh hsp ho hc h
   · obtain⟨r,⟨rfl,rfl⟩,h2⟩:=z7d h;exact go<|zn1 hsp.eqs h2
 · obtain⟨r,⟨rfl,rfl⟩,h2⟩:=z7d h;exact go<|zn1 hsp.eqs h2
end
end Go.Proofs.YtnlacmnoocigiaaGreatDoor.Aw
namespace Go.Proofs.YtnlacmnoocigiaaGreatDoor.Aw
open Go.RowKit
def szOf (P:Program)(t:TypeId):Option Nat:=(P.info? t).map (·.size)
def z4u (P:Program)(H:Heap)(t:TypeId)(p x:AV)(K:Nat→Row→Prop):Prop:=
 match p with
 |.ptr K' off=>match H K' with
  |.var cs e=>z3r H x fun l=>szOf P t=some l.length∧off+l.length≤cs.length∧K K' (.var (spl cs off l) e)
  |_=>False
 |.lp K' n i j=>match H K' with
  |.lst sz l e=>l.length=n∧i<l.length∧z3r H x fun m=>szOf P t=some m.length∧j+m.length≤sz∧m.all z05=true∧K K' (.lst sz (l.set i (spl (at_ l i) j m)) e)
  |_=>False
 |_=>False
section
variable {P : Program} {sp : Spec} {w0 w w' : World} {fp : Nat → Prop} {S0 : Bs} {I I' : Itp} {H H' : Heap} {n nx : Nat} {E : Nat → AV} {a : Act}
theorem z9a {t:TypeId}{p x:AV}{K:Nat→Row→Prop}(h:z4u P H t p x K):∃k r,K k r∧z4u P H t p x fun k' r'=>k'=k∧r'=r:=by
 unfold z4u at*;split at h<;>try exact h.elim
 · split at h<;>try exact h.elim
   obtain⟨l,⟨h1,h2,h3⟩,h4⟩:=z3f h;exact⟨_,_,h3,h4 _ ⟨h1,h2,rfl,rfl⟩⟩
 · split at h<;>try exact h.elim
   obtain⟨q1,q2,h⟩:=h;obtain⟨l,⟨h1,h2,h2b,h3⟩,h4⟩:=z3f h;exact⟨_,_,h3,q1,q2,h4 _ ⟨h1,h2,h2b,rfl,rfl⟩⟩
theorem zuy (cells:List AV)(off:Nat)(us:List AV):(spl cells off us).length=cells.length:=by
 induction us generalizing cells off with
 |nil=>rfl
 |cons u us ih=>rw[spl,ih];simp
theorem z8i {b:Nat}{e:TypeId}:∀(us:List Value) (o:Nat) (w:World) (vs:List Value),w.heap[b]? =some (.cells vs.toArray e (0,0))→(w.setCells b o us).heap[b]? =some (.cells (splV vs o us).toArray e (0,0))
 |[],o,w,vs,h=>h
 |u::us,o,w,vs,h=>by
  have h1:=heap_setCell_same w b o _ e u h;have h2:(vs.toArray.setIfInBounds o u)=(vs.set o u).toArray:=by simp
  rw[h2] at h1;exact z8i us (o+1) _ _ h1
theorem z5w (b:Nat):∀(us:List Value) (o:Nat) (w:World),Fr (fun k=>k=b) w (w.setCells b o us)
 |[],o,w=>Fr.refl _ _
 |u::us,o,w=>((Fr.refl (fun k=>k=b) w).setCell (p:=⟨b,o,none⟩) (.inl rfl) u).trans (z5w b us (o+1) _)
theorem z5i (w:World)(b o:Nat)(t:TypeId)(v:Value)(us:List Value)(hv:v.cells=us.toArray)(hs:szOf P t=some us.length)(ht:w.there b o us.length)(h1:∀u∈us,u.oneCell'=true):
 (Instr.storeAt t (.pointer (some ⟨b,o,none⟩)) v).run P w=.ok () (w.setCells b o us):=by
 have:=run_storeCells_cells (P:=P) b o us 0 w (fun j hj=>by simpa using (ht j hj).1) (fun j hj=>by simpa using (ht j hj).2) h1;unfold szOf at hs
 cases hq:P.info? t with
 |none=>rw[hq] at hs;cases hs
 |some i=>rw[hq] at hs;simp only[Option.map_some,Option.some.injEq] at hs;simp only[Nat.add_zero] at this;simp[Instr.storeAt,Instr.sureAddr,Sem.run_bind,storeVar,sizeOf,typeInfo,hq,hv,hs,this]
theorem zri {α:Type}{C:Cod α}{w:World}{E:TypeId}{v:Value}{o:Option Nat}{l:List α}(h:Own C w E v o l)(hl:0<l.length):∃g off cap,v=.slice (some ⟨g,off,none⟩) l.length cap∧o=some g:=by
 rcases h with ⟨A,h1,h2,h3⟩|⟨g,off,cap,cur,h1,h2, -⟩
 · rw[h3] at hl;exact absurd hl (by simp)
 · exact⟨g,off,cap,h1,h2⟩
theorem za1 {E:TypeId}{sz:Nat}{hz:0<sz}{g off n cap i:Nat}:∀(us:List Value) (j:Nat) (w:World) (cs:List (Vec sz)) (hi:i<cs.length),Own (vecC sz hz) w E (.slice (some ⟨g,off,none⟩) n cap) (some g) cs→(∀u∈us,u.oneCell'=true)→j+us.length≤sz→
 ∃c:Vec sz,c.1=splV cs[i].1 j us∧Own (vecC sz hz) (w.setCells g (off+(i*sz+j)) us) E (.slice (some ⟨g,off,none⟩) n cap) (some g) (cs.set i c)
 |[],j,w,cs,hi,h,h1,hj=>⟨cs[i],rfl,by rw[List.set_getElem_self];exact h⟩
 |u::us,j,w,cs,hi,h,h1,hj=>by
  simp only[List.length_cons] at hj
  obtain⟨c1,hc1⟩:∃c:Vec sz,c.1=cs[i].1.set j u:=⟨⟨cs[i].1.set j u,by rw[List.length_set];exact cs[i].2.1,fun v hv=>by
   rcases List.mem_or_eq_of_mem_set hv with hv|rfl
   · exact cs[i].2.2 v hv
   · exact h1 v (by simp)⟩,rfl⟩
  have hs:=h.set1 (x':=c1) (i:=i) (j:=j) hi (by show j<sz;omega) (u:=u) hc1;have hi2:i<(cs.set i c1).length:=by rw[List.length_set];exact hi
  obtain⟨c,e1,e2⟩:=za1 us (j+1) _ (cs.set i c1) hi2 hs (fun v hv=>h1 v (by simp[hv])) (by omega);refine⟨c, ?_, ?_⟩
  · rw[e1,splV];congr 1;rw[List.getElem_set_self,hc1]
  · rw[List.set_set] at e2;have e3:off+(i*sz+(j+1))=off+(i*sz+j)+1:=by omega
    rw[e3] at e2;exact e2
theorem zn3 {l:List (List AV)}{i k:Nat}{x e:List AV}(h:(l.set i x)[k]? =some e):(k=i∧e=x∧i<l.length)∨(k≠i∧l[k]? =some e):=by
 rw[List.getElem?_set] at h;by_cases hk:i=k
 · rw[if_pos hk] at h;split at h
   · cases h;exact .inl ⟨hk.symm,rfl,by assumption⟩
   · cases h
 · rw[if_neg hk] at h;exact .inr ⟨fun e=>hk e.symm,h⟩
theorem VR.closed {x:AV}{v:Value}(h:z05 x=true)(hv:VR I H w x v):VC I.S w x v:=by
 cases x with
 |sc u=>rw[hv.sc_inv];exact .sc _
 |ro l=>exact hv.ro_inv
 |rp l=>exact hv.rp_inv
 |_=>cases h
theorem zub {S:Nat→Prop}:∀{m:List AV} {us:List Value} {cells:List AV} {vs:List Value} (j:Nat),cells.length=vs.length→(∀(i:Nat) x v,cells[i]? =some x→vs[i]? =some v→VC S w x v)→m.length=us.length→(∀(i:Nat) x v,m[i]? =some x→us[i]? =some v→VC S w x v)→
 ∀(i:Nat) x v,(spl cells j m)[i]? =some x→(splV vs j us)[i]? =some v→VC S w x v
 |[],us,cells,vs,j,hl,h,hm,hu=>by
  cases us with
  |nil=>exact h
  |cons=>simp at hm
 |x::m,us,cells,vs,j,hl,h,hm,hu=>by
  cases us with
  |nil=>simp at hm
  |cons u us=>
   rw[spl,splV];refine zub (j+1) (by simp[hl]) (fun i y v h1 h2=> ?_) (by simpa using hm) (fun i y v h1 h2=>hu (i+1) y v (by simpa using h1) (by simpa using h2));rw[List.getElem?_set] at h1 h2;by_cases hij:j=i
   · rw[if_pos hij] at h1 h2;split at h1
     · rename_i hlt;rw[if_pos (by rw[←hl];exact hlt)] at h2;cases h1;cases h2;exact hu 0 _ _ rfl rfl
     · cases h1
   · rw[if_neg hij] at h1 h2;exact h i y v h1 h2
theorem zfb (h:Mem w0 fp S0 I H w){t:TypeId}{p x:AV}{pv v:Value}{k:Nat}{r:Row}(hk:z4u P H t p x fun k' r'=>k'=k∧r'=r)(hp:VR I H w p pv)(hx:VR I H w x v):
 ∃w',(Instr.storeAt t pv v).run P w=.ok () w'∧Mem w0 fp S0 I (upd H k r) w'∧∀y u,VR I H w y u→VR I (upd H k r) w' y u:=by
 unfold z4u at hk;split at hk<;>try exact hk.elim
 · rename_i K' off;split at hk<;>try exact hk.elim
   rename_i cs e hK;obtain⟨l,us,⟨h1,h2,rfl,rfl⟩,e1,e2,e3,e4⟩:=z8c h hk hx;obtain⟨rfl, -⟩:=hp.ptr_inv;have hr:=h.rows K';rw[hK] at hr;obtain⟨vs,g1,g2,g3,g4⟩:=hr
   have hthere:w.there (I.ρ K') off us.length:=fun j hj=>by
    refine⟨?_,frozen_of_row w _ _ _ _ g1⟩;rw[cell_of_row w (I.ρ K') (off+j) _ e (0,0) g1];have:off+j<vs.length:=by omega
    simp[this]
   have hO:Owns I H K' (I.ρ K'):=by unfold Owns;rw[hK]
   refine⟨_,z5i w _ off t v us e1 (by rw[h1,e2]) hthere e3, ?_⟩
   have key:=h.step (I':=I) (H':=upd H K' (.var (spl cs off l) e)) (w':=w.setCells (I.ρ K') off us) (fun K=>K=K') ((z5w (I.ρ K') us off w).mono (fun k hk=>⟨K',rfl,hk ▸ hO⟩)) (fun _ h=>h) (fun _ h=>.inl h) (fun k q1 q2=>absurd q1 q2)
    (fun K hn=>⟨z6b _ _ hn,rfl,rfl,rfl⟩) (fun K hT=>by subst hT;unfold Goes;rw[hK,z0j])
    (fun hv K hT=>by subst hT;rw[z0j];have hcr:CR I (upd H K (.var (spl cs off l) e)) (w.setCells (I.ρ K) off us) (spl cs off l) (splV vs off us):=CR.spl ⟨g2,g3,fun i x v a b=>hv (g4 i x v a b)⟩ ⟨e2,e3,fun i x v a b=>hv (e4 i x v a b)⟩ off;exact⟨_,z8i us off w vs g1,hcr.len,hcr.one,hcr.ok⟩)
    (fun K k hT hk=>by subst hT;unfold Owns at hk;rw[z0j] at hk;simp only at hk;subst hk;have:=h.own _ _ hO;exact⟨.inl ⟨K,rfl,hO⟩,Nat.lt_of_lt_of_le this.1 (z5w (I.ρ K) us off w).size,this.2.1⟩)
    (fun K1 K2 k q1 q2 _ _=>q1.trans q2.symm)
   exact⟨key.1,fun y u hu=>key.2 hu⟩
 · rename_i K' n i j;split at hk<;>try exact hk.elim
   rename_i sz l e hK;obtain⟨hln,hi,hk⟩:=hk;obtain⟨m,us,⟨h1,h2,h3,rfl,rfl⟩,e1,e2,e3,e4⟩:=z8c h hk hx;obtain⟨mm,q1,q2,q3⟩:=hp.lp_inv;obtain⟨g,off,c,hh,rfl⟩:=q3 sz l e hK hln;have hr:=h.rows K';rw[hK] at hr;obtain⟨hz,cs,g1,g2⟩:=hr;have hic:i<cs.length:=by rw[←g2.len];exact hi
   obtain⟨g',off',cap,hv',ho'⟩:=zri g1 (by omega);have hO:∀k,I.ow K'=some k→Owns I H K' k:=fun k hk=>by unfold Owns;rw[hK];exact hk
   have hhv:=hv';rw[hh] at hv';simp only[Value.slice.injEq,Option.some.injEq,Addr.mk.injEq] at hv';obtain⟨⟨rfl,rfl, -⟩,hnn,rfl⟩:=hv';have hown:Own (vecC sz hz) w e (.slice (some ⟨g,off,none⟩) cs.length c) (some g) cs:=by rw[←hhv,←ho'];exact g1
   obtain⟨c1,hc1,hown2⟩:=za1 us j w cs hic hown e3 (by omega);have hmid:off+(i*sz+j)=off+i*sz+j:=by omega
   have hthere:w.there g (off+(i*sz+j)) us.length:=fun q hq=>by
    refine⟨?_,hown.frozen rfl (by simp)⟩;obtain⟨g2',off2,cap2,hv2, -, -, -,hcell⟩:=hown.rd.at_ hic;simp only[Value.slice.injEq,Option.some.injEq,Addr.mk.injEq] at hv2;obtain⟨⟨rfl,rfl, -⟩, -, -⟩:=hv2;have hlt:j+q<sz:=by omega
    have:=hcell (j+q) hlt;rw[show off+(i*sz+j)+q=off+(i*(vecC sz hz).size+(j+q)) from by show _=off+(i*sz+(j+q));omega,this];show (cs[i].1[j+q]?).isSome=true;have:j+q<cs[i].1.length:=by rw[cs[i].2.1];exact hlt
    rw[List.getElem?_eq_getElem this];rfl
   refine⟨_,z5i w _ _ t v us e1 (by rw[h1,e2]) hthere e3, ?_⟩;have hfr:=z5w g us (off+(i*sz+j)) w;have hSb:∀k,I.S k→(w.setCells g (off+(i*sz+j)) us).heap[k]? =w.heap[k]? :=fun k hk=>hfr.block k (h.slt k hk) (fun e=>(h.own _ _ (hO g ho')).2.1 (e ▸ hk))
   have key:=h.step (I':=I) (H':=upd H K' (.lst sz (l.set i (spl (at_ l i) j m)) e)) (w':=w.setCells g (off+(i*sz+j)) us) (fun K=>K=K') (hfr.mono (fun k hk=>⟨K',rfl,hk ▸ hO g ho'⟩)) (fun _ h=>h) (fun _ h=>.inl h) (fun k q1 q2=>absurd q1 q2)
    (fun K hn=>⟨z6b _ _ hn,rfl,rfl,rfl⟩) (fun K hT=>by subst hT;unfold Goes;rw[hK,z0j];exact⟨rfl,by simp,fun _=>rfl⟩)
    (fun hv K hT=>by
     subst hT;rw[z0j];refine⟨hz,cs.set i c1, ?_,⟨by simp[g2.len],fun k ee hk=> ?_,fun k q ee cc y u k1 k2 k3 k4=> ?_⟩⟩
     · rw[hhv,ho'];exact hown2
     · rcases zn3 hk with ⟨-,rfl, -⟩|⟨-,hk⟩
       · rw[zuy];exact g2.wide i _ (z9y hi)
       · exact g2.wide k ee hk
     · rcases zn3 k1 with ⟨rfl,rfl, -⟩|⟨hne,k1⟩
       · rw[List.getElem?_set_self hic] at k2;cases k2;rw[hc1] at k4;have hcl:∀(p:Nat) y u,m[p]? =some y→us[p]? =some u→VC I.S w y u:=fun p y u a b=>(e4 p y u a b).closed (List.all_eq_true.1 h3 y (List.mem_of_getElem? a));have hat:=g2.wide k _ (z9y hi);exact(zub j (by rw[hat,cs[k].2.1]) (fun p y u a b=>g2.ok k p _ cs[k] y u (z9y hi) (List.getElem?_eq_getElem hic) a b) e2 hcl q y u k3 k4).keep (fun _ h=>h) hSb
       · rw[List.getElem?_set_ne (fun e=>hne e.symm)] at k2;exact(g2.ok k q ee cc y u k1 k2 k3 k4).keep (fun _ h=>h) hSb)
    (fun K k hT hk=>by subst hT;unfold Owns at hk;rw[z0j] at hk;simp only at hk;have:=h.own _ _ (hO k hk);exact⟨.inl ⟨K,rfl,hO k hk⟩,Nat.lt_of_lt_of_le this.1 hfr.size,this.2.1⟩)
    (fun K1 K2 k q1 q2 _ _=>q1.trans q2.symm)
   exact⟨key.1,fun y u hu=>key.2 hu⟩
end
end Go.Proofs.YtnlacmnoocigiaaGreatDoor.Aw
namespace Go.Proofs.YtnlacmnoocigiaaGreatDoor.Aw
open Go.RowKit
def za2 (P:Program)(t:TypeId):Option (TypeId×Nat×Nat):=
 match P.underlying t with
 |some (.slice e)=>match P.info? e with
  |some i=>match i.zero with
   |some z=>if z.cells.size==i.size && decide (0<i.bytes) && decide (0<i.size) then some (e,i.size,i.bytes) else none
   |none=>none
  |none=>none
 |_=>none
def zdv (H:Heap)(y:AV)(K:List (List AV)→Prop):Prop:=
 match y with
 |.ro l=>K l
 |.sl K' n=>match H K' with
  |.lst _ l _=>l.length=n∧K l
  |.fro l=>l.length=n∧K l
  |_=>False
 |.sc (.slice none 0 0)=>K []
 |_=>False
def appW (P:Program)(nx:Nat)(H:Heap)(t:TypeId)(x y:AV)(K:AV→Nat→Row→Prop):Prop:=
 match za2 P t with
 |some (e,sz,by_)=>zdv H y fun l2=>(∀c∈l2,c.length=sz)∧match x with
  |.sc (.slice none 0 0)=>l2.length*by_≤140737488355328∧K (.sl nx l2.length) nx (.lst sz l2 e)
  |.sl K' n=>match H K' with
   |.lst sz' l e'=>l.length=n∧sz'=sz∧e'=e∧(l.length+l2.length)*by_≤140737488355328∧K (.sl K' (l++l2).length) K' (.lst sz (l++l2) e)
   |_=>False
  |_=>False
 |none=>False
section
variable {P : Program} {sp : Spec} {w0 w w' : World} {fp : Nat → Prop} {S0 : Bs} {I I' : Itp} {H H' : Heap} {n nx : Nat} {E : Nat → AV} {a : Act}
theorem zaz {y:AV}{K:List (List AV)→Prop}(h:zdv H y K):∃l,K l∧∀K':List (List AV)→Prop,K' l→zdv H y K':=by
 unfold zdv at*;split at h<;>try exact h.elim
 · exact⟨_,h,fun K' h'=>h'⟩
 · split at h<;>first|exact h.elim|exact⟨_,h.2,fun K' h'=>⟨h.1,h'⟩⟩
 · exact⟨_,h,fun K' h'=>h'⟩
theorem zjd {t:TypeId}{x y:AV}{K:AV→Nat→Row→Prop}(h:appW P nx H t x y K):∃v k r,K v k r∧appW P nx H t x y fun v' k' r'=>v'=v∧k'=k∧r'=r:=by
 unfold appW at*;split at h<;>try exact h.elim
 obtain⟨l2,⟨h0,h⟩,hn⟩:=zaz h;split at h<;>try exact h.elim
 · exact⟨_,_,_,h.2,hn _ ⟨h0,h.1,rfl,rfl,rfl⟩⟩
 · split at h<;>try exact h.elim
   rename_i hK;obtain⟨k1,k2,k3,k4,k5⟩:=h;refine⟨_,_,_,k5,hn _ ⟨h0, ?_⟩⟩;exact⟨k1,k2,k3,k4,rfl,rfl,rfl⟩
theorem zy1 {t e:TypeId}{sz by_:Nat}(h:za2 P t=some (e,sz,by_)):El P t e sz by_∧0<sz:=by
 unfold za2 at h;split at h<;>try (cases h;done)
 rename_i e' hu;split at h<;>try (cases h;done)
 rename_i i hi;split at h<;>try (cases h;done)
 rename_i z hz;split at h<;>cases h;rename_i hc;simp only[Bool.and_eq_true,beq_iff_eq,decide_eq_true_eq] at hc;exact⟨⟨hu,i,z,hi,hz,rfl,rfl,hc.1.1,hc.1.2⟩,hc.2⟩
theorem zrj (h:Mem w0 fp S0 I H w){y:AV}{v:Value}{l:List (List AV)}(hk:zdv H y (· =l))(hy:VR I H w y v){sz:Nat}(hz:0<sz)(hsz:∀c∈l,c.length=sz):
 ∃cs:List (Vec sz),Rd (vecC sz hz) w (seen I H) v cs∧Elems I.S w sz l cs:=by
 have conv:∀{sz':Nat} (hz':0<sz') (cs:List (Vec sz')) (S:Nat→Prop),Rd (vecC sz' hz') w S v cs→Elems I.S w sz' l cs→(∀k,S k→seen I H k)→∃cs:List (Vec sz),Rd (vecC sz hz) w (seen I H) v cs∧Elems I.S w sz l cs:=fun {sz'} hz' cs S hr he hs=>by
  by_cases hl:l=[]
  · subst hl;have:cs=[]:=List.eq_nil_of_length_eq_zero he.len.symm;subst this;obtain⟨A,c,h1,h2,h3,h4,h5⟩:=hr;exact⟨[],⟨A,c,h1,h2,h3,h4,fun h=>absurd h (by simp)⟩,rfl,fun i e h=>by simp at h,fun i j e c x v h=>by simp at h⟩
  · obtain⟨c,hc⟩:=List.exists_mem_of_ne_nil l hl;obtain⟨i,hi,hh⟩:=List.getElem_of_mem hc;have e1:=he.wide i c (by rw[←hh];exact List.getElem?_eq_getElem hi);have e2:=hsz c hc;have:sz=sz':=by omega
    subst this;exact⟨cs,hr.mono hs,he⟩
 unfold zdv at hk;split at hk<;>try exact hk.elim
 · subst hk
   cases hy.ro_inv with
   |ro _ sz' hz' cs u hrd hl hw hc=>exact conv hz' cs I.S hrd ⟨hl,hw,hc⟩ (fun k hk=>.inl hk)
 · rename_i K' m;obtain⟨mm,q1,q2,q3⟩:=hy.sl_inv;have hr:=h.rows K';split at hk<;>try exact hk.elim
   · rename_i sz' l' e hK;obtain⟨h1,rfl⟩:=hk;rw[hK] at hr q1;simp only[Row.len,Option.some.injEq] at q1;obtain⟨hz',cs,g1,g2⟩:=hr;have hrd:=g1.rd;rw[←q3 (by omega)] at hrd;exact conv hz' cs _ hrd g2 (fun k hk=>.inr ⟨K',by unfold Owns;rw[hK];exact hk⟩)
   · rename_i l' hK;obtain⟨h1,rfl⟩:=hk;rw[hK] at hr q1;simp only[Row.len,Option.some.injEq] at q1;have hr:VC I.S w (.ro l') (I.hdr K'):=hr;rw[←q3 (by omega)] at hr
     cases hr with
     |ro _ sz' hz' cs u hrd hl hw hc=>exact conv hz' cs I.S hrd ⟨hl,hw,hc⟩ (fun k hk=>.inl hk)
 · subst hk;rw[hy.sc_inv];exact⟨[],Rd.nil_ _ _ _,rfl,fun i e h=>by simp at h,fun i j e c x v h=>by simp at h⟩
theorem zb0 {t ty e:TypeId}{sz by_:Nat}(hel:El P t e sz by_)(w:World)(A:Option Addr)(n c:Nat)(hc:n≤c)(Ax:Option Addr)(cx:Nat):
 (Builtin.append_ #[t,t] ty #[.slice A n c,.slice Ax 0 cx]).run P w=.ok (.slice A n c) w:=by
 obtain⟨ht,i,z,hi,hz, -⟩:=hel;cases A<;>cases Ax<;>simp[Builtin.append_,run_underlying ht,sizeOf,typeInfo,hi,Builtin.lenOf,Builtin.firstCells,loadCells,loadCellsFrom,storeCells,hc]
theorem Elems.app {S:Nat→Prop}{sz:Nat}{l l2:List (List AV)}{cs cs2:List (Vec sz)}(h:Elems S w sz l cs)(h2:Elems S w sz l2 cs2):Elems S w sz (l++l2) (cs++cs2) where
 len:=by rw[List.length_append,List.length_append,h.len,h2.len]
 wide:=fun i e hk=>by
  by_cases hi:i<l.length
  · rw[List.getElem?_append_left hi] at hk;exact h.wide i e hk
  · rw[List.getElem?_append_right (by omega)] at hk;exact h2.wide _ e hk
 ok:=fun i j e c x v k1 k2 k3 k4=>by
  by_cases hi:i<l.length
  · rw[List.getElem?_append_left hi] at k1;rw[List.getElem?_append_left (by rw[←h.len];exact hi)] at k2;exact h.ok i j e c x v k1 k2 k3 k4
  · rw[List.getElem?_append_right (by omega)] at k1;rw[List.getElem?_append_right (by rw[←h.len];omega),←h.len] at k2;exact h2.ok _ j e c x v k1 k2 k3 k4
theorem zuz (h:Mem w0 fp S0 I H w){t ty:TypeId}{x y r:AV}{k:Nat}{row:Row}{xv yv:Value}(hk:appW P nx H t x y fun v' k' r'=>v'=r∧k'=k∧r'=row)(hx:VR I H w x xv)(hy:VR I H w y yv)(hd:k=nx→H nx=.dead):
 ∃v w' I',(Builtin.append_ #[t,t] ty #[xv,yv]).run P w=.ok v w'∧Mem w0 fp S0 I' (upd H k row) w'∧VR I' (upd H k row) w' r v∧∀z u,VR I H w z u→VR I' (upd H k row) w' z u:=by
 unfold appW at hk;split at hk<;>try exact hk.elim
 rename_i e sz by_ hel;obtain⟨hel,hz⟩:=zy1 hel;obtain⟨l2,⟨hsz,hk⟩,hn⟩:=zaz hk;obtain⟨cs2,hrd,hel2⟩:=zrj h (hn (· =l2) rfl) hy hz hsz;split at hk<;>try exact hk.elim
 · obtain⟨hb,rfl,rfl,rfl⟩:=hk;rw[hx.sc_inv];obtain⟨v',w',o',hrun,hown,hfr,hnew⟩:=z0s (P:=P) (ty:=ty) (C:=vecC sz hz) hel w (Own.nil_ _ w e none) hrd (by simpa [←hel2.len] using hb);simp only[List.nil_append] at hown;obtain⟨m1,m2,m3⟩:=h.list (hd rfl) (hfr.mono (fun k hk=>by cases hk)) hz hown (fun k hk=>(hnew k hk).resolve_left (fun e=>by cases e)) hel2;exact⟨v',w',_,hrun,m1,m3,fun z u hu=>m2 hu⟩
 · rename_i K' m _;split at hk<;>try exact hk.elim
   rename_i sz' l e' hK;obtain⟨h1,rfl,rfl,hb,rfl,rfl,rfl⟩:=hk;obtain⟨mm,q1,q2,q3⟩:=hx.sl_inv;rw[hK] at q1;simp only[Row.len,Option.some.injEq] at q1;rw[q3 (by omega)];have hr:=h.rows K';rw[hK] at hr;obtain⟨hz',cs,g1,g2⟩:=hr;by_cases hl2:l2=[]
   · subst hl2;have hcs2:cs2=[]:=List.eq_nil_of_length_eq_zero hel2.len.symm;subst hcs2;obtain⟨A,cp,e1,e2, -⟩:=g1.form;obtain⟨Ax,cx,e3, -⟩:=hrd.form;refine⟨I.hdr K',w,I, ?_, ?_, ?_,fun z u hu=> ?_⟩
     · rw[e1,e3];exact zb0 hel w A cs.length cp e2 Ax cx
     · rw[List.append_nil,←hK,show upd H K' (H K')=H from funext fun i=>by unfold upd;split<;>simp_all];exact h
     · rw[List.append_nil,←hK,show upd H K' (H K')=H from funext fun i=>by unfold upd;split<;>simp_all];exact .sl K' _ l.length _ (by rw[hK];rfl) (Nat.le_refl _) (fun _=>rfl)
     · rw[List.append_nil,←hK,show upd H K' (H K')=H from funext fun i=>by unfold upd;split<;>simp_all];exact hu
   · obtain⟨v',w',o',hrun,hown,hfr,hnew⟩:=z0s (P:=P) (ty:=ty) (C:=vecC sz' hz) hel w g1 hrd (by rw[←g2.len,←hel2.len];exact hb);obtain⟨m1,m2,m3⟩:=h.app hK hz hfr hown hnew (g2.app hel2) (fun e=>absurd e hl2);exact⟨v',w',_,hrun,m1,m3,fun z u hu=>m2 hu⟩
end
end Go.Proofs.YtnlacmnoocigiaaGreatDoor.Aw
