/- token: the cutter's at, skip, eat, word; Blank. -/
import Derived.Test.YtnlacmnoocigiaaGreatDoorNamAb
import Derived.Test.YtnlacmnoocigiaaGreatDoorEntBc
import Derived.Test.YtnlacmnoocigiaaGreatDoorTokR
import Derived.Shelf.Strings.SlTrimAscii
namespace Go.Proofs.YtnlacmnoocigiaaGreatDoor
open Go.RowKit Go.Lib
attribute [local go_sem ↓] Go.wp_at_zero Go.wp_at_succ
theorem zgd :(fun b=>[32,9,10,13].contains b)=z0z:=by funext b;rw[Bool.eq_iff_iff];simp[z0z,or_assoc]
theorem zge (s:ByteArray)(w:World):Calls Tryz.prog 137 #[.string s,.string ⟨#[32,9,10,13]⟩] w fun e w'=>e=.returned (.string ⟨(s.data.toList.drop (nB s.data.toList)).toArray⟩)∧Fr (fun _=>False) w w':=by have h:=Any.strings_TrimLeft_laid Tryz.lays161 (by kernel_rfl) s ⟨#[32,9,10,13]⟩ w (by decide) (ascii_of_all (by decide));refine h.mono ?_;rintro e w' ⟨rfl,hb⟩;refine⟨?_,Fr.of_below hb (fun k h1 h2=>absurd h1 (by omega))⟩;rw[zpk];unfold Lib.trimLeftS;rw[zgd]
structure CutAt (w:World)(b n:Nat)(r:ByteArray):Prop where
 blk:w.heap[b]? =some (.cells #[.int .i64 n,.string r] 106 (0,0))
 le:r.size≤n
 n_le:n≤1000000
namespace CutAt
variable {w w' : World} {b n : Nat} {r r' : ByteArray}
theorem c0 (h:CutAt w b n r):w.cell? ⟨b,0,none⟩=some (.int .i64 n):=by rw[cell_of_row w b 0 _ _ _ h.blk];rfl
theorem c1 (h:CutAt w b n r):w.cell? ⟨b,1,none⟩=some (.string r):=by rw[cell_of_row w b 1 _ _ _ h.blk];rfl
theorem fz (h:CutAt w b n r):w.frozen? ⟨b,1,none⟩=false:=frozen_of_row w b _ _ _ h.blk
theorem lt (h:CutAt w b n r):b<w.heap.size:=(Array.getElem?_eq_some_iff.1 h.blk).1
theorem fr {fp:Nat→Prop}(h:CutAt w b n r)(hf:Fr fp w w')(hb:¬fp b):CutAt w' b n r:=⟨(hf.block b h.lt hb).trans h.blk,h.le,h.n_le⟩
theorem same (h:CutAt w b n r)(hf:Fr (fun _=>False) w w'):CutAt w' b n r:=h.fr hf (fun h=>h)
theorem set (h:CutAt w b n r)(hr:r'.size≤n):CutAt (w.setCell ⟨b,1,none⟩ (.string r')) b n r':=⟨by rw[heap_setCell_same w b 1 _ _ _ h.blk];rfl,hr,h.n_le⟩
end CutAt
theorem Fr.into_set {w w':World}{b i:Nat}{v:Value}(h:Fr (fun _=>False) w w'):Fr (fun k=>k=b) w (w'.setCell ⟨b,i,none⟩ v):=Fr.setCell (fp:=fun k=>k=b) (p:=⟨b,i,none⟩) (h.mono (fun _ h=>h.elim)) (.inl rfl) v
theorem Fr.more_set {w w':World}{b i:Nat}{v:Value}(h:Fr (fun k=>k=b) w w'):Fr (fun k=>k=b) w (w'.setCell ⟨b,i,none⟩ v):=Fr.setCell (fp:=fun k=>k=b) (p:=⟨b,i,none⟩) h (.inl rfl) v
theorem Fr.into {w w':World}{b:Nat}(h:Fr (fun _=>False) w w'):Fr (fun k=>k=b) w w':=h.mono (fun _ h=>h.elim)
theorem z1j (l:List UInt8):(⟨l.toArray⟩:ByteArray).size=l.length:=List.size_toArray ..
theorem z5b (s:ByteArray):(⟨s.data.toList.toArray⟩:ByteArray)=s:=by cases s;rfl
set_option maxHeartbeats 1000000 in
theorem zui (b n:Nat)(r:ByteArray)(w:World)(h:CutAt w b n r):Calls Tryz.prog 75 #[.pointer (some ⟨b,0,none⟩)] w fun e w'=>e=.returned (.int .i64 ((n - r.size:Nat):Int))∧Fr (fun _=>False) w w':=by
 have z0:=h.c0;have z1:=h.c1;have hle:=h.le;have hn:=h.n_le;have hw:IntKind.i64.wrap ((n:Int) - (r.size:Int))=((n - r.size:Nat):Int):=by rw[IntWalk.i64_in _ (by omega)];omega
 clear h;go_enter Tryz.func75,Tryz.ntmps75;go_wp2;go_quiet (fail);go_wp2;go_ret;exact⟨rfl,(Fr.refl _ _).drewN _⟩
set_option maxHeartbeats 1000000 in
theorem z7g (b n:Nat)(r:ByteArray)(w:World)(h:CutAt w b n r):Calls Tryz.prog 105 #[.pointer (some ⟨b,0,none⟩)] w fun e w'=>e=.returned (.bool (decide (0<nB r.data.toList)))∧CutAt w' b n ⟨(r.data.toList.drop (nB r.data.toList)).toArray⟩∧Fr (fun k=>k=b) w w':=by
 have z1:=h.c1;have hl:r.data.toList.length=r.size:=rfl;have hnb:=zil r.data.toList;have HT:=hide (fun W=>zge r W);have H:=hide h;obtain⟨r2,hr2⟩:∃r2:ByteArray,(⟨(r.data.toList.drop (nB r.data.toList)).toArray⟩:ByteArray)=r2:=⟨_,rfl⟩;have hz:r2.size=r.size - nB r.data.toList:=by rw[←hr2,z1j,List.length_drop,hl]
 have hle:=h.le;have hn:=h.n_le
 have hd:decide (r2.size<r.size)=decide (0<nB r.data.toList):=by
  rw[hl] at hnb;by_cases h0:0<nB r.data.toList
  · rw[decide_eq_true h0,decide_eq_true (by omega)]
  · rw[decide_eq_false h0,decide_eq_false (by omega)]
 rw[hr2] at HT⊢;have HD:=hide hd;have HR:=hide (show r2.size≤n by omega);clear hd hz hr2 hl hnb h;go_enter Tryz.func105,Tryz.ntmps105;go_wp2_with (go_at_call 137;refine(HT.out _).mono ?_;rintro e w1 ⟨rfl,f1⟩;have c1:=H.out.same f1;have y1:=c1.fz;have y0:=c1.c1;have y2:=(c1.set (r':=r2) HR.out).c1);go_ret;exact⟨by rw[←HD.out];rfl,c1.set HR.out,f1.into_set⟩
set_option maxHeartbeats 1000000 in
theorem z84 (b n:Nat)(r t:ByteArray)(w:World)(h:CutAt w b n r):Calls Tryz.prog 103 #[.pointer (some ⟨b,0,none⟩),.string t] w fun e w'=>e=.returned (.bool (hasPrefix r.data.toList t.data.toList))∧CutAt w' b n ⟨(trimPrefix r.data.toList t.data.toList).toArray⟩∧Fr (fun k=>k=b) w w':=by
 have z1:=h.c1;have y1:=h.fz;have hl:r.data.toList.length=r.size:=rfl;have HT:=hide (fun W=>Tryz.strings_CutPrefix r t W);obtain⟨r2,hr2⟩:∃r2:ByteArray,(⟨(trimPrefix r.data.toList t.data.toList).toArray⟩:ByteArray)=r2:=⟨_,rfl⟩
 have hz:r2.size≤n:=by
  have hle:=h.le;rw[←hr2,z1j];unfold trimPrefix;split
  · rw[List.length_drop];omega
  · omega
 rw[hr2] at HT⊢;generalize hasPrefix r.data.toList t.data.toList=ok at*;have HC:=hide (h.set hz);have HF:=hide ((Fr.refl (fun _=>False) w).into_set (b:=b) (i:=1) (v:=.string r2));clear hz hr2 hl h;go_enter Tryz.func103,Tryz.ntmps103;go_wp2_with (go_at_call 73;refine(HT.out _).mono ?_;rintro e w1 ⟨rfl,rfl⟩);go_ret;exact⟨rfl,HC.out,HF.out⟩
set_option maxHeartbeats 1000000 in
theorem zen (b n:Nat)(r:ByteArray)(w:World)(h:CutAt w b n r):Calls Tryz.prog 104 #[.pointer (some ⟨b,0,none⟩)] w fun e w'=>
 e=.returned (.string ⟨(r.data.toList.take (z03 r.data.toList)).toArray⟩)∧CutAt w' b n ⟨(r.data.toList.drop (z03 r.data.toList)).toArray⟩∧Fr (fun k=>k=b) w w':=by
 have z1:=h.c1;have y1:=h.fz;have hl:r.data.toList.length=r.size:=rfl;have hle:=h.le;have hn:=h.n_le;have hb:=z1c r.data.toList;have HT:=hide (fun W=>zou r W (by omega));have e1:(⟨(r.data.toList.take (z03 r.data.toList)).toArray⟩:ByteArray)=r.extract 0 (z03 r.data.toList):=by apply ByteArray.ext;apply Array.toList_inj.1;rw[z08];simp
 have e2:(⟨(r.data.toList.drop (z03 r.data.toList)).toArray⟩:ByteArray)=r.extract (z03 r.data.toList) r.size:=by apply ByteArray.ext;apply Array.toList_inj.1;rw[z08,List.take_of_length_le (by rw[List.length_drop];omega)]
 rw[e1,e2];have hz:(r.extract (z03 r.data.toList) r.size).size≤n:=by simp;omega
 generalize z03 r.data.toList=k at*;have hks:k≤r.size:=by omega
 have HC:=hide (h.set hz);have HF:=hide ((Fr.refl (fun _=>False) w).into_set (b:=b) (i:=1) (v:=.string (r.extract k r.size)));clear hz hl h e1 e2 hb;go_enter Tryz.func104,Tryz.ntmps104;go_wp2_with (go_at_call 136;refine(HT.out _).mono ?_;rintro e w1 ⟨rfl,rfl⟩);go_ret;exact⟨rfl,HC.out,HF.out⟩
end Go.Proofs.YtnlacmnoocigiaaGreatDoor
namespace Go.Proofs.YtnlacmnoocigiaaGreatDoor
open Go.RowKit Go.Lib
attribute [local go_sem ↓] Go.wp_at_zero Go.wp_at_succ
theorem z8w (l:List UInt8)(c:UInt8):decide (0≤Lib.indexByte l c)=decide (c∈l):=by
 congr 1;rw[eq_iff_iff];have h0:=Lib.indexByte_ge l c;constructor
 · intro h;obtain⟨o,ho⟩:∃o:Nat,Lib.indexByte l c=o:=⟨(Lib.indexByte l c).toNat,by omega⟩;exact List.mem_of_getElem? (Lib.indexByte_some ho).1
 · intro h;rcases (show Lib.indexByte l c<0∨0≤Lib.indexByte l c by omega) with h1|h1
   · obtain⟨i,hi,he⟩:=List.getElem_of_mem h;exact absurd (by rw[List.getElem?_eq_getElem hi,he]) (Lib.indexByte_none (show Lib.indexByte l c= -1 by omega) i)
   · exact h1
theorem z6w {q:UInt8}{a r:List UInt8}(h:q ∉ a):(a++q::r).takeWhile (· !=q)=a:=by rw[List.takeWhile_append_of_pos (fun b hb=>by simp only[bne_iff_ne,ne_eq];intro e;exact h (e ▸ hb)),List.takeWhile_cons,if_neg (by simp),List.append_nil]
theorem zp6 {q:UInt8}{l:List UInt8}(h:q∈l):cut l [q]=(l.takeWhile (· !=q),l.drop ((l.takeWhile (· !=q)).length+1),true):=by obtain⟨a,r,rfl,ha⟩:=z28 h;rw[zi9 ha,z6w ha,←List.drop_drop,List.drop_left];rfl
theorem z0g (l:List UInt8)(x:UInt8):hasPrefix l [x]=true↔l[0]? =some x:=by
 cases l with
 |nil=>simp[hasPrefix,List.isPrefixOf]
 |cons b l=>simp only[hasPrefix,List.isPrefixOf,Bool.and_true,beq_iff_eq,List.getElem?_cons_zero,Option.some.injEq];exact eq_comm
def z4t (l:List UInt8):List UInt8:=(l.drop (z03 l)).drop (nB (l.drop (z03 l)))
def z2s (l:List UInt8):List UInt8:=((z4t l).drop 1).drop (nB ((z4t l).drop 1))
theorem z7h (l:List UInt8):z2s l=l.drop (z2x l):=by unfold z2s z4t z2x;simp only[List.drop_drop,Nat.add_assoc]
theorem zbr (l:List UInt8):
 (z03 l=0∧z1p l=none)∨
 (0<z03 l∧hasPrefix (z4t l) [61]=false∧z1p l=none)∨
 (0<z03 l∧hasPrefix (z4t l) [61]=true∧z2s l=[]∧z1p l=none)∨
 (∃q l5,0<z03 l∧hasPrefix (z4t l) [61]=true∧z2s l=q::l5∧((¬(q=34∨q=39)∧z1p l=none)∨((q=34∨q=39)∧((q ∉ l5∧z1p l=none)∨(q∈l5∧(((60:UInt8)∈l5.takeWhile (· !=q)∧z1p l=none)∨
  ((60:UInt8) ∉ l5.takeWhile (· !=q)∧∃k,z1p l=some (⟨l.take (z03 l),l5.takeWhile (· !=q),l.length - l5.length⟩,k)∧l.drop k=l5.drop ((l5.takeWhile (· !=q)).length+1)))))))):=by
 have hE:hasPrefix (z4t l) [61]=true↔l[z03 l+nB (l.drop (z03 l))]? =some 61:=by rw[z0g];unfold z4t;rw[List.getElem?_drop,List.getElem?_drop,Nat.add_zero]
 have hno:∀{P:Prop},(∀a k,z1p l=some (a,k)→P)→¬P→z1p l=none:=fun h hp=>by
  cases ha:z1p l with
  |none=>rfl
  |some x=>exact absurd (h x.1 x.2 ha) hp
 rcases Nat.eq_zero_or_pos (z03 l) with h0|h0
 · exact .inl ⟨h0,hno (fun a k h=>by obtain⟨q,r,h1,_⟩:=attrP_iff.1 h;exact h1) (by omega)⟩
 · cases h1:hasPrefix (z4t l) [61] with
   |false=>exact .inr (.inl ⟨h0,rfl,hno (fun a k h=>by obtain⟨q,r,_,h2,_⟩:=attrP_iff.1 h;exact hE.2 h2) (by rw[h1];decide)⟩)
   |true=>
    have h1':=hE.1 h1
    cases h2:z2s l with
    |nil=>exact .inr (.inr (.inl ⟨h0,rfl,rfl,hno (fun a k h=>by obtain⟨q,r,_,_,h3,_⟩:=attrP_iff.1 h;rw[←z7h,h2] at h3;exact(List.cons_ne_nil _ _ h3.symm).elim) (fun h=>h)⟩))
    |cons q l5=>
     refine .inr (.inr (.inr ⟨q,l5,h0,rfl,rfl, ?_⟩));have hd:l.drop (z2x l)=q::l5:=by rw[←z7h];exact h2
     have hq:∀a k,z1p l=some (a,k)→(q=34∨q=39)∧q∈l5∧(60:UInt8) ∉ l5.takeWhile (· !=q):=fun a k h=>by obtain⟨q',r,_,_,h3,h4,h5,h6,_⟩:=attrP_iff.1 h;rw[hd] at h3;injection h3 with e1 e2;subst e1 e2;exact⟨h4,h5,h6⟩
     by_cases c1:q=34∨q=39
     · refine .inr ⟨c1, ?_⟩;by_cases c2:q∈l5
       · refine .inr ⟨c2, ?_⟩;by_cases c3:(60:UInt8)∈l5.takeWhile (· !=q)
         · exact .inl ⟨c3,hno (fun a k h=>(hq a k h).2.2) (fun h=>h c3)⟩
         · refine .inr ⟨c3,z2x l+1+(l5.takeWhile (· !=q)).length+1,attrP_iff.2 ⟨q,l5,h0,h1',hd,c1,c2,c3, ?_,rfl⟩, ?_⟩
           · have:=congrArg List.length hd;rw[List.length_drop,List.length_cons] at this;congr 1;omega
           · have h5:l.drop (z2x l+1)=l5:=by rw[←List.drop_drop,hd];rfl
             rw[show z2x l+1+(l5.takeWhile (· !=q)).length+1=(z2x l+1)+((l5.takeWhile (· !=q)).length+1) by omega,←List.drop_drop,h5]
       · exact .inl ⟨c2,hno (fun a k h=>(hq a k h).2.1) c2⟩
     · exact .inl ⟨c1,hno (fun a k h=>(hq a k h).1) c1⟩
def AttrPost (b n:Nat)(l:List UInt8)(w:World)(e:Ending)(w':World):Prop:=
 ∃r':ByteArray,CutAt w' b n r'∧Fr (fun k=>k=b) w w'∧
  match z1p l with
  |some (a,k)=>e=.returned (.tuple #[.agg #[.string ⟨a.name.toArray⟩,.string ⟨a.value.toArray⟩,.int .i64 ((n - l.length+a.off:Nat):Int)],.bool true])∧r'=⟨(l.drop k).toArray⟩
  |none=>∃(x y:ByteArray) (z:Int),e=.returned (.tuple #[.agg #[.string x,.string y,.int .i64 z],.bool false])
theorem AttrPost.no {b n:Nat}{l:List UInt8}{w:World}{x y:ByteArray}{z:Int}{w':World}{r':ByteArray}(h:z1p l=none)(hc:CutAt w' b n r')(hf:Fr (fun k=>k=b) w w'):AttrPost b n l w (.returned (.tuple #[.agg #[.string x,.string y,.int .i64 z],.bool false])) w':=by refine⟨r',hc,hf, ?_⟩;rw[h];exact⟨x,y,z,rfl⟩
theorem AttrPost.yes {b n:Nat}{l:List UInt8}{w:World}{a:RawA}{k:Nat}{w':World}{x y r':ByteArray}{i:Int}(h:z1p l=some (a,k))(hc:CutAt w' b n r')(hf:Fr (fun k=>k=b) w w')
 (hr:r'=⟨(l.drop k).toArray⟩) (hx:x=⟨a.name.toArray⟩) (hy:y=⟨a.value.toArray⟩) (hi:i=((n - l.length+a.off:Nat):Int)):AttrPost b n l w (.returned (.tuple #[.agg #[.string x,.string y,.int .i64 i],.bool true])) w':=by
 refine⟨r',hc,hf, ?_⟩;rw[h];subst hx hy hi;exact⟨rfl,hr⟩
def Free (b:Nat):Prop:=b≠0∧b≠1∧b≠4
theorem St.fr {w w':World}{fp:Nat→Prop}(h:St w)(f:Fr fp w w')(hs:∀k,fp k→Free k):St w' where
 ub:=by intro j x hx;have:=h.ub j x hx;rw[f.cell (World.block_lt_of_cell? w _ this) (fun hf=>(hs _ hf).1 rfl)];exact this
 ml:=by obtain⟨m,hm⟩:=h.ml;exact⟨m,by rw[f.cell (World.block_lt_of_cell? w _ hm) (fun hf=>(hs _ hf).2.1 rfl)];exact hm⟩
 es:=by obtain⟨t,p,hm⟩:=h.es;exact⟨t,p,by rw[f.cell (World.block_lt_of_cell? w _ hm) (fun hf=>(hs _ hf).2.2 rfl)];exact hm⟩
theorem St.free {w:World}(h:St w){b:Nat}(hb:w.heap.size≤b):Free b:=by
 refine⟨?_, ?_, ?_⟩
 · rintro rfl;have:=World.block_lt_of_cell? w _ (h.ub 0 9 (by rfl));simp only at this;omega
 · rintro rfl;obtain⟨m,hm⟩:=h.ml;have:=World.block_lt_of_cell? w _ hm;simp only at this;omega
 · rintro rfl;obtain⟨t,p,hm⟩:=h.es;have:=World.block_lt_of_cell? w _ hm;simp only at this;omega
theorem Fr.set_b (w:World)(b i:Nat)(v:Value):Fr (fun k=>k=b) w (w.setCell ⟨b,i,none⟩ v):=Fr.setCell (fp:=fun k=>k=b) (p:=⟨b,i,none⟩) (Fr.refl _ w) (.inl rfl) v
theorem Fr.alloc_then {fp:Nat→Prop}{w w':World}{o:Obj}(f:Fr fp (w.alloc o) w'):Fr fp w w':=((Fr.refl fp w).alloc o).trans f
structure TwoB (b:Nat)(w:World)(B1 B2:Nat)(x y z:Value):Prop where
 r1:w.heap[B1]? =some (.cells #[.string ⟨#[]⟩,.string ⟨#[]⟩,.int .i64 0] 170 (0,0))
 r2:w.heap[B2]? =some (.cells #[x,y,z] 170 (0,0))
 n1:b≠B1
 n2:b≠B2
 n12:B1≠B2
namespace TwoB
variable {b : Nat} {w w' : World} {B1 B2 : Nat} {x y z : Value}
theorem start {w w1 w2:World}{b:Nat}(hb:b<w.heap.size)(f1:Fr (fun k=>k=b) (w.alloc (.cells #[.string ⟨#[]⟩,.string ⟨#[]⟩,.int .i64 0] 170)) w1)
 (f2:Fr (fun k=>k=b) (w1.alloc (.cells #[x,y,z] 170)) w2):TwoB b w2 w.heap.size w1.heap.size x y z:=by
 have s1:w.heap.size+1≤w1.heap.size:=by have:=f1.size;simpa using this
 refine⟨?_, ?_,by omega,by omega,by omega⟩
 · rw[f2.block _ (by simp;omega) (by omega),Below.heap_alloc w1 _ _ (by omega),f1.block _ (by simp) (by omega)];exact heap_alloc_new w _
 · rw[f2.block _ (by simp) (by omega)];exact heap_alloc_new w1 _
theorem fr (h:TwoB b w B1 B2 x y z)(f:Fr (fun k=>k=b) w w'):TwoB b w' B1 B2 x y z:=⟨(f.block B1 (Array.getElem?_eq_some_iff.1 h.r1).1 (fun e=>h.n1 e.symm)).trans h.r1,(f.block B2 (Array.getElem?_eq_some_iff.1 h.r2).1 (fun e=>h.n2 e.symm)).trans h.r2,h.n1,h.n2,h.n12⟩
theorem facts (h:TwoB b w B1 B2 x y z):w.cell? ⟨B1,0,none⟩=some (.string ⟨#[]⟩)∧w.cell? ⟨B1,1,none⟩=some (.string ⟨#[]⟩)∧w.cell? ⟨B1,2,none⟩=some (.int .i64 0)∧
 w.cell? ⟨B2,0,none⟩=some x∧w.cell? ⟨B2,1,none⟩=some y∧w.cell? ⟨B2,2,none⟩=some z∧
 (∀i,w.frozen? ⟨B1,i,none⟩=false)∧(∀i,w.frozen? ⟨B2,i,none⟩=false)∧¬B1=B2∧¬B2=B1∧¬b=B1∧¬B1=b∧¬b=B2∧¬B2=b:=by
 refine⟨?_, ?_, ?_, ?_, ?_, ?_,fun i=>frozen_of_row w B1 i _ _ h.r1,fun i=>frozen_of_row w B2 i _ _ h.r2,h.n12,fun e=>h.n12 e.symm,h.n1,fun e=>h.n1 e.symm,h.n2,fun e=>h.n2 e.symm⟩
 · rw[cell_of_row w B1 0 _ _ _ h.r1];rfl
 · rw[cell_of_row w B1 1 _ _ _ h.r1];rfl
 · rw[cell_of_row w B1 2 _ _ _ h.r1];rfl
 · rw[cell_of_row w B2 0 _ _ _ h.r2];rfl
 · rw[cell_of_row w B2 1 _ _ _ h.r2];rfl
 · rw[cell_of_row w B2 2 _ _ _ h.r2];rfl
theorem store3 (h:TwoB b w B1 B2 x y z)(u0 u1 u2:Value):∃W,((w.setCell ⟨B1,0,none⟩ u0).setCell ⟨B1,1,none⟩ u1).setCell ⟨B1,2,none⟩ u2=W∧W.cell? ⟨B1,0,none⟩=some u0∧W.cell? ⟨B1,1,none⟩=some u1∧W.cell? ⟨B1,2,none⟩=some u2∧Fr (fun k=>k=B1) w W:=by
 have e1:=heap_setCell_same w B1 0 _ _ u0 h.r1;have e2:=heap_setCell_same _ B1 1 _ _ u1 e1;have e3:=heap_setCell_same _ B1 2 _ _ u2 e2;refine⟨_,rfl, ?_, ?_, ?_,((Fr.set_b w B1 0 u0).trans (Fr.set_b _ B1 1 u1)).trans (Fr.set_b _ B1 2 u2)⟩
 · rw[cell_of_row _ B1 0 _ _ _ e3];rfl
 · rw[cell_of_row _ B1 1 _ _ _ e3];rfl
 · rw[cell_of_row _ B1 2 _ _ _ e3];rfl
end TwoB
theorem z4z {fp:Nat→Prop}{w w1:World}{o:Obj}(f:Fr fp (w.alloc o) w1):w.heap.size<w1.heap.size:=by have:=f.size;simp at this;omega
theorem TwoB.fin {b n B1 B2:Nat}{w:World}{x y z:Value}{r:ByteArray}(h:TwoB b w B1 B2 x y z)(hc:CutAt w b n r)(i:Int)(m:Nat)(v rest:ByteArray)(hr:rest.size≤n):
 ∃W,(((w.setCell ⟨B2,2,none⟩ (.int .i64 i)).drewN m).setCell ⟨B2,1,none⟩ (.string v)).setCell ⟨b,1,none⟩ (.string rest)=W∧TwoB b W B1 B2 x (.string v) (.int .i64 i)∧CutAt W b n rest∧Fr (fun k=>k=b∨k=B2) w W:=by
 have e1:=heap_setCell_same w B2 2 _ _ (.int .i64 i) h.r2;have e2:(((w.setCell ⟨B2,2,none⟩ (.int .i64 i)).drewN m).setCell ⟨B2,1,none⟩ (.string v)).heap[B2]? =_:=heap_setCell_same ((w.setCell ⟨B2,2,none⟩ (.int .i64 i)).drewN m) B2 1 _ _ (.string v) e1;have f1:=((Fr.set_b w B2 2 (.int .i64 i)).drewN m).trans (Fr.set_b ((w.setCell ⟨B2,2,none⟩ (.int .i64 i)).drewN m) B2 1 (.string v));have c1:=hc.fr f1 h.n2;have f2:=Fr.set_b (((w.setCell ⟨B2,2,none⟩ (.int .i64 i)).drewN m).setCell ⟨B2,1,none⟩ (.string v)) b 1 (.string rest);refine⟨_,rfl,⟨?_, ?_,h.n1,h.n2,h.n12⟩,c1.set hr, ?_⟩
 · rw[f2.block B1 (Nat.lt_of_lt_of_le (Array.getElem?_eq_some_iff.1 h.r1).1 f1.size) (fun e=>h.n1 e.symm),f1.block B1 (Array.getElem?_eq_some_iff.1 h.r1).1 h.n12];exact h.r1
 · rw[f2.block B2 (Array.getElem?_eq_some_iff.1 e2).1 (fun e=>h.n2 e.symm)];exact e2
 · exact(f1.mono (fun k h=>Or.inr h)).trans (f2.mono (fun k h=>Or.inl h))
theorem z64 {w w1 w2:World}{b:Nat}{o o':Obj}(f1:Fr (fun k=>k=b) (w.alloc o) w1)(f2:Fr (fun k=>k=b) (w1.alloc o') w2):Fr (fun k=>k=b) w w2:=f1.alloc_then.trans f2.alloc_then
end Go.Proofs.YtnlacmnoocigiaaGreatDoor
namespace Go.Proofs.YtnlacmnoocigiaaGreatDoor
open Go.RowKit Go.Lib
attribute [local go_sem ↓] Go.wp_at_zero Go.wp_at_succ
theorem z52 {w:World}{b n:Nat}{r:ByteArray}(h:CutAt w b n r)(x y:Value):∃W,w.alloc (.cells #[x,y] 138)=W∧CutAt W b n r∧W.cell? ⟨w.heap.size,0,none⟩=some x∧W.cell? ⟨w.heap.size,1,none⟩=some y∧Fr (fun k=>k=b) w W:=by
 have hb:=heap_alloc_new w (.cells #[x,y] 138);refine⟨_,rfl,h.same (Fr.alloc (Fr.refl _ _) _), ?_, ?_,Fr.alloc (Fr.refl _ _) _⟩
 · rw[cell_of_row _ _ 0 _ _ _ hb];rfl
 · rw[cell_of_row _ _ 1 _ _ _ hb];rfl
theorem CutAt.drewN {w:World}{b n:Nat}{r:ByteArray}(h:CutAt w b n r)(m:Nat):CutAt (w.drewN m) b n r:=⟨h.blk,h.le,h.n_le⟩
theorem zka {l t:List UInt8}(ht:t≠[]):cut l t=match z2t t l with|some i=>(l.take i,l.drop (i+t.length),true)|none=>(l,[],false):=by
 unfold cut;rw[zbw ht]
 cases z2t t l with
 |none=>rw[if_neg (by simp)]
 |some i=>rw[if_pos (by simp)];simp
def B1 :ByteArray:=⟨#[60,33,45,45]⟩
def B2 :ByteArray:=⟨#[60,63]⟩
set_option maxRecDepth 100000 in
set_option maxHeartbeats 4000000 in
theorem zly (b n:Nat)(r:ByteArray)(w:World)(h:CutAt w b n r)(hst:St w)(hfree:Free b):
 Calls Tryz.prog 46 #[.pointer (some ⟨b,0,none⟩)] w fun e w'=>e=.returned (.bool (decide (0<z0c r.data.toList)))∧CutAt w' b n ⟨(r.data.toList.drop (z0c r.data.toList)).toArray⟩∧Fr (fun k=>k=b) w w':=by
 have hl:r.data.toList.length=r.size:=rfl;obtain⟨ml,hml⟩:=hst.ml;have HM:=hide (fun W (f:Fr (fun k=>k=b) w W)=>show W.cell? ⟨1,0,none⟩=some (.int .i64 ml) by rw[f.cell (World.block_lt_of_cell? w _ hml) (fun e=>hfree.2.1 e.symm)];exact hml);have z1:=h.c1;have H:=hide h;have hn:=h.n_le;have hle:=h.le;have HL:=hide h.lt;have c1:=fun W=>(Tryz.strings_CutPrefix r ⟨#[60,33,45,45]⟩ W);have c2:=fun W=>(Tryz.strings_CutPrefix r ⟨#[60,63]⟩ W);have i0:∀W:World,(Instr.index 139 (.agg #[.string ⟨#[60,33,45,45]⟩,.string ⟨#[45,45,62]⟩,.string ⟨#[60,63]⟩,.string ⟨#[63,62]⟩]) (.int .i64 0)).run Tryz.prog W=.ok (.agg #[.string ⟨#[60,33,45,45]⟩,.string ⟨#[45,45,62]⟩]) W:=fun W=>by kernel_rfl
 have i1:∀W:World,(Instr.index 139 (.agg #[.string ⟨#[60,33,45,45]⟩,.string ⟨#[45,45,62]⟩,.string ⟨#[60,63]⟩,.string ⟨#[63,62]⟩]) (.int .i64 1)).run Tryz.prog W=.ok (.agg #[.string ⟨#[60,63]⟩,.string ⟨#[63,62]⟩]) W:=fun W=>by kernel_rfl
 clear h hml;rw[show (⟨#[60,33,45,45]⟩:ByteArray).data.toList=[60,33,45,45] from rfl] at c1;rw[show (⟨#[60,63]⟩:ByteArray).data.toList=[60,63] from rfl] at c2
 cases h1:hasPrefix r.data.toList [60,33,45,45] with
 |true=>
  have t1:trimPrefix r.data.toList [60,33,45,45]=r.data.toList.drop 4:=by unfold trimPrefix;rw[if_pos h1];rfl
  rw[h1,t1] at c1;obtain⟨t,ht⟩:∃t:ByteArray,(⟨(r.data.toList.drop 4).toArray⟩:ByteArray)=t:=⟨_,rfl⟩;have htl:t.data.toList=r.data.toList.drop 4:=by rw[←ht]
  have htz:t.size≤1000000:=by rw[←ht,z1j,List.length_drop];omega
  rw[ht] at c1;have HC1:=hide c1;have c3:=fun W hW=>Tryz.strings_Cut t ⟨#[45,45,62]⟩ ml W (by omega) hW;rw[show (⟨#[45,45,62]⟩:ByteArray).data.toList=[45,45,62] from rfl,htl,zka (by simp)] at c3;have hrm:z0c r.data.toList=match z2t [45,45,62] (r.data.toList.drop 4) with|some i=>4+i+3|none=>0:=by unfold z0c;unfold hasPrefix at h1;rw[if_pos h1];cases z2t [45,45,62] (r.data.toList.drop 4)<;>rfl
  cases hf:z2t [45,45,62] (r.data.toList.drop 4) with
  |none=>rw[hf] at hrm c3;simp only at hrm c3;have HT:=hide c3;rw[hrm,List.drop_zero,z5b];clear c1 c2 c3 t1 h1 ht htl hrm hf hl;go_enter Tryz.func46,Tryz.ntmps46;go_wp2;refine wp_loop_rounds 3 ?_;rw[rounds_succ];go_wp2;obtain⟨W1,hW1,p1,m0,m1,g1⟩:=z52 H.out (.string ⟨#[60,33,45,45]⟩) (.string ⟨#[45,45,62]⟩);rw[hW1];have k1:=p1.c1;go_quiet ((go_at_call 73;exact z1h ((HC1.out _).mono fun _ _ ⟨x,y⟩=>⟨x,y.symm⟩)));go_wp2_with (go_at_call 74;refine(HT.out _ (HM.out _ (g1.drewN _))).mono ?_;rintro e w3 ⟨rfl,n3,rfl⟩);go_ret;exact⟨rfl,p1.drewN _,g1.drewN _⟩
  |some i=>
   rw[hf] at hrm c3;simp only[List.length_cons,List.length_nil,Nat.reduceAdd] at hrm c3;obtain⟨q,hq⟩:∃q:ByteArray,(⟨((r.data.toList.drop 4).drop (i+3)).toArray⟩:ByteArray)=q:=⟨_,rfl⟩;have hq2:(⟨(r.data.toList.drop (z0c r.data.toList)).toArray⟩:ByteArray)=q:=by rw[hrm,←hq,List.drop_drop,show 4+i+3=4+(i+3) by omega]
   have hqz:q.size≤n:=by rw[←hq2,z1j,List.length_drop];omega
   have hd:decide (0<z0c r.data.toList)=true:=decide_eq_true (by omega);rw[hq] at c3;have HT:=hide c3;have HZ:=hide hqz;rw[hq2,hd];clear c1 c2 c3 t1 h1 ht htl hrm hf hl hq hq2 hqz hd;go_enter Tryz.func46,Tryz.ntmps46;go_wp2;refine wp_loop_rounds 3 ?_;rw[rounds_succ];go_wp2;obtain⟨W1,hW1,p1,m0,m1,g1⟩:=z52 H.out (.string ⟨#[60,33,45,45]⟩) (.string ⟨#[45,45,62]⟩);rw[hW1];have k1:=p1.c1;go_quiet ((go_at_call 73;exact z1h ((HC1.out _).mono fun _ _ ⟨x,y⟩=>⟨x,y.symm⟩)));have y1:=p1.fz;go_wp2_with (go_at_call 74;refine(HT.out _ (HM.out _ (g1.drewN _))).mono ?_;rintro e w3 ⟨rfl,n3,rfl⟩);go_ret;exact⟨rfl,(p1.drewN _).set HZ.out,(g1.drewN _).more_set⟩
 |false=>
  have t1:trimPrefix r.data.toList [60,33,45,45]=r.data.toList:=by unfold trimPrefix;rw[if_neg (by rw[h1];decide)]
  rw[h1,t1,z5b] at c1
  cases h2:hasPrefix r.data.toList [60,63] with
  |true=>
   have t2:trimPrefix r.data.toList [60,63]=r.data.toList.drop 2:=by unfold trimPrefix;rw[if_pos h2];rfl
   rw[h2,t2] at c2;obtain⟨t,ht⟩:∃t:ByteArray,(⟨(r.data.toList.drop 2).toArray⟩:ByteArray)=t:=⟨_,rfl⟩;have htl:t.data.toList=r.data.toList.drop 2:=by rw[←ht]
   have htz:t.size≤1000000:=by rw[←ht,z1j,List.length_drop];omega
   rw[ht] at c2;have HC1:=hide c1;have HC2:=hide c2;have c3:=fun W hW=>Tryz.strings_Cut t ⟨#[63,62]⟩ ml W (by omega) hW;rw[show (⟨#[63,62]⟩:ByteArray).data.toList=[63,62] from rfl,htl,zka (by simp)] at c3;have hrm:z0c r.data.toList=match z2t [63,62] (r.data.toList.drop 2) with|some i=>2+i+2|none=>0:=by unfold z0c;unfold hasPrefix at h1 h2;rw[if_neg (by rw[h1];decide),if_pos h2];cases z2t [63,62] (r.data.toList.drop 2)<;>rfl
   cases hf:z2t [63,62] (r.data.toList.drop 2) with
   |none=>rw[hf] at hrm c3;simp only at hrm c3;have HT:=hide c3;rw[hrm,List.drop_zero,z5b];clear c1 c2 c3 t1 t2 h1 h2 ht htl hrm hf hl;go_enter Tryz.func46,Tryz.ntmps46;go_wp2;refine wp_loop_rounds 3 ?_;rw[rounds_succ];go_wp2;obtain⟨W1,hW1,p1,m0,m1,g1⟩:=z52 H.out (.string ⟨#[60,33,45,45]⟩) (.string ⟨#[45,45,62]⟩);rw[hW1];have k1:=p1.c1;go_quiet ((go_at_call 73;exact z1h ((HC1.out _).mono fun _ _ ⟨x,y⟩=>⟨x,y.symm⟩)));have p1':=p1.drewN nq;have g1':=g1.drewN nq;generalize W1.drewN nq=V1 at*;go_wp2;rw[rounds_succ];go_wp2;obtain⟨W2,hW2,p2,o0,o1,g2⟩:=z52 p1' (.string ⟨#[60,63]⟩) (.string ⟨#[63,62]⟩);rw[hW2];have k2:=p2.c1;go_quiet ((go_at_call 73;exact z1h ((HC2.out _).mono fun _ _ ⟨x,y⟩=>⟨x,y.symm⟩)));go_wp2_with (go_at_call 74;refine(HT.out _ (HM.out _ (g1'.trans (g2.drewN _)))).mono ?_;rintro e w3 ⟨rfl,n3,rfl⟩);go_ret;exact⟨rfl,p2.drewN _,g1'.trans (g2.drewN _)⟩
   |some i=>
    rw[hf] at hrm c3;simp only[List.length_cons,List.length_nil,Nat.reduceAdd] at hrm c3;obtain⟨q,hq⟩:∃q:ByteArray,(⟨((r.data.toList.drop 2).drop (i+2)).toArray⟩:ByteArray)=q:=⟨_,rfl⟩;have hq2:(⟨(r.data.toList.drop (z0c r.data.toList)).toArray⟩:ByteArray)=q:=by rw[hrm,←hq,List.drop_drop,show 2+i+2=2+(i+2) by omega]
    have hqz:q.size≤n:=by rw[←hq2,z1j,List.length_drop];omega
    have hd:decide (0<z0c r.data.toList)=true:=decide_eq_true (by omega);rw[hq] at c3;have HT:=hide c3;have HZ:=hide hqz;rw[hq2,hd];clear c1 c2 c3 t1 t2 h1 h2 ht htl hrm hf hl hq hq2 hqz hd;go_enter Tryz.func46,Tryz.ntmps46;go_wp2;refine wp_loop_rounds 3 ?_;rw[rounds_succ];go_wp2;obtain⟨W1,hW1,p1,m0,m1,g1⟩:=z52 H.out (.string ⟨#[60,33,45,45]⟩) (.string ⟨#[45,45,62]⟩);rw[hW1];have k1:=p1.c1;go_quiet ((go_at_call 73;exact z1h ((HC1.out _).mono fun _ _ ⟨x,y⟩=>⟨x,y.symm⟩)));have p1':=p1.drewN nq;have g1':=g1.drewN nq;generalize W1.drewN nq=V1 at*;go_wp2;rw[rounds_succ];go_wp2;obtain⟨W2,hW2,p2,o0,o1,g2⟩:=z52 p1' (.string ⟨#[60,63]⟩) (.string ⟨#[63,62]⟩);rw[hW2];have k2:=p2.c1;go_quiet ((go_at_call 73;exact z1h ((HC2.out _).mono fun _ _ ⟨x,y⟩=>⟨x,y.symm⟩)));have y2:=p2.fz;go_wp2_with (go_at_call 74;refine(HT.out _ (HM.out _ (g1'.trans (g2.drewN _)))).mono ?_;rintro e w3 ⟨rfl,n3,rfl⟩);go_ret;exact⟨rfl,(p2.drewN _).set HZ.out,(g1'.trans (g2.drewN _)).more_set⟩
  |false=>
   have t2:trimPrefix r.data.toList [60,63]=r.data.toList:=by unfold trimPrefix;rw[if_neg (by rw[h2];decide)]
   rw[h2,t2,z5b] at c2;have hr:z0c r.data.toList=0:=by unfold z0c;unfold hasPrefix at h1 h2;rw[if_neg (by rw[h1];decide),if_neg (by rw[h2];decide)]
   rw[hr,List.drop_zero,z5b];have HC1:=hide c1;have HC2:=hide c2;clear c1 c2 t1 t2 h1 h2 hr hl;go_enter Tryz.func46,Tryz.ntmps46;go_wp2;refine wp_loop_rounds 3 ?_;rw[rounds_succ];go_wp2;obtain⟨W1,hW1,p1,m0,m1,g1⟩:=z52 H.out (.string ⟨#[60,33,45,45]⟩) (.string ⟨#[45,45,62]⟩);rw[hW1];have k1:=p1.c1;go_quiet ((go_at_call 73;exact z1h ((HC1.out _).mono fun _ _ ⟨x,y⟩=>⟨x,y.symm⟩)));have p1':=p1.drewN nq;have g1':=g1.drewN nq;generalize W1.drewN nq=V1 at*;go_wp2;rw[rounds_succ];go_wp2;obtain⟨W2,hW2,p2,o0,o1,g2⟩:=z52 p1' (.string ⟨#[60,63]⟩) (.string ⟨#[63,62]⟩);rw[hW2];have k2:=p2.c1;go_quiet ((go_at_call 73;exact z1h ((HC2.out _).mono fun _ _ ⟨x,y⟩=>⟨x,y.symm⟩)));go_wp2;rw[rounds_succ];go_wp2;go_ret;exact⟨rfl,p2.drewN _,g1'.trans (g2.drewN _)⟩
end Go.Proofs.YtnlacmnoocigiaaGreatDoor
