/- strings.Builder of the call's own: WriteString, String. -/
import Derived.Test.YtnlacmnoocigiaaGreatDoorBaseSt
import Derived.Test.YtnlacmnoocigiaaGreatDoorProg
import Derived.RowKit
import Derived.Test.YtnlacmnoocigiaaGreatDoorShSort
import Derived.Lib.AppendStr
import Derived.Lib.OthersKept
import Derived.Maps.RangeRun
import Derived.MapKept
import Derived.Test.YtnlacmnoocigiaaGreatDoorEntAll
namespace Go.Proofs.YtnlacmnoocigiaaGreatDoor
open Go.RowKit Go.Lib
def Bd (w:World)(b:Nat)(l:List UInt8):Prop:=Lib.IsBuilderF 89 5 b b (Lib.byteCells l) w
theorem Bd.lt {w:World}{b:Nat}{l:List UInt8}(h:Bd w b l):b<w.heap.size:=by
 rcases h with h|h
 · exact h.lt
 · exact h.lt
theorem Bd.fr {w w':World}{b:Nat}{l:List UInt8}(h:Bd w b l)(f:Fr (fun _=>False) w w'):Bd w' b l:=by
 have g:w.grownBy w' none:=⟨f.os,f.tape,f.output,f.size,fun k hk _=>f.block k hk (fun h=>h)⟩;have hlt:=h.lt;rcases h with ⟨hB,v,hb,ho,hn⟩|⟨hB,v,hb,ho,hn⟩
 · exact .inl ⟨hB,v,(f.block b hlt (fun h=>h)).trans hb,ho.kept g (by cases hv:v.ownBlock<;>simp),hn⟩
 · exact .inr ⟨hB,v,(f.block b hlt (fun h=>h)).trans hb,ho.kept g (by cases hv:v.ownBlock<;>simp),hn⟩
theorem Bd.fresh (w:World):Bd (w.alloc (.cells #[.pointer none,.slice none 0 0] 89)) w.heap.size []:=Lib.IsBuilderF.of (Lib.fresh_isBuilder _ _ w)
theorem zjv :(Tryz.prog.info? 89).map (fun i=>(i.size !=0))=some true:=by kernel_rfl
theorem zsf :liesAt Tryz.prog Tryz.prog.depth 89 (2 / Tryz.prog.cellsOf 89) 0 89 1=true:=by kernel_rfl
theorem zsg :(Tryz.prog.info? 5).map (fun i=>(i.zero,i.size,i.bytes))=some (some (.int .u8 0),1,1):=by kernel_rfl
set_option maxHeartbeats 1000000 in
set_option maxRecDepth 100000 in
theorem zcl (b:Nat)(w:World)(h0:w.cell? ⟨b,0,none⟩=some (.pointer (some ⟨b,0,none⟩))):
 Calls Tryz.prog 91 #[.pointer (some ⟨b,0,none⟩)] w fun e w'=>e=.returned (.tuple #[])∧w'=w:=by
 obtain⟨j,hj,_⟩:=Option.map_eq_some_iff.1 zjv;go_enter Tryz.func91,Tryz.ntmps91;go_wp2;rw[Lib.run_neq_ptr_same w _ Tryz.underlying86 hj];go_wp2
 go_end0
 exact⟨rfl,rfl⟩
set_option maxHeartbeats 1000000 in
set_option maxRecDepth 100000 in
theorem zbc (b:Nat)(w:World)(h0:w.cell? ⟨b,0,none⟩=some (.pointer none))(hsh:w.shape? b=some (89,2))(hfz:w.frozen? ⟨b,0,none⟩=false):
 Calls Tryz.prog 91 #[.pointer (some ⟨b,0,none⟩)] w fun e w'=>e=.returned (.tuple #[])∧w'=w.setCell ⟨b,0,none⟩ (.pointer (some ⟨b,0,none⟩)):=by
 obtain⟨j,hj,hjs⟩:=Option.map_eq_some_iff.1 zjv;have hjs:j.size≠0:=by simpa using hjs
 go_enter Tryz.func91,Tryz.ntmps91;go_wp2;rw[Lib.run_to_unsafe w ⟨b,0,none⟩ Tryz.underlying86 Tryz.underlying196 hj hjs hsh (Nat.zero_lt_succ 1)];simp only[Result.andThen];rw[Oper.upon_value];go_wp2;rw[run_callFunc_extern Tryz.func130 (by kernel_rfl) (by kernel_rfl) (by kernel_rfl) (e:=Extern.AbiNoEscape.same) (by kernel_rfl)];rw[Lib.run_noEscape];simp only[Result.andThen];rw[Oper.upon_value];go_wp2;rw[Lib.run_from_unsafe w ⟨b,0,none⟩ Tryz.underlying196 Tryz.underlying86 hj hsh zsf];simp only[Result.andThen];rw[Oper.upon_value];go_wp2
 go_end0
 exact⟨rfl,rfl⟩
theorem ze9 (B b:Nat)(bs:List Value)(w:World)(h:Lib.IsBuilderF 89 5 B b bs w):
 Calls Tryz.prog 91 #[.pointer (some ⟨b,0,none⟩)] w fun e w'=>e=.returned (.tuple #[])∧(Lib.BuilderAtF 89 5 B b (.pointer (some ⟨b,0,none⟩)) bs w'∧Below B w w'∧Lib.OthersKept 5 (some b) w w'):=by
 rcases h with h|h
 · refine(zbc b w h.cell0 h.shape h.frozen0).mono ?_;rintro e w' ⟨rfl,rfl⟩;exact⟨rfl,h.used _,(Below.refl B w).setCell (p:=⟨b,0,none⟩) h.1 _,(Lib.OthersKept.refl _ _ w).setCell ⟨b,0,none⟩ rfl _⟩
 · refine(zcl b w h.cell0).mono ?_;rintro e w' ⟨rfl,rfl⟩;exact⟨rfl,h,Below.refl B _,Lib.OthersKept.refl _ _ _⟩
set_option maxHeartbeats 2000000 in
set_option maxRecDepth 100000 in
theorem z0k (b:Nat)(l:List UInt8)(s:ByteArray)(w:World)(h:Bd w b l)(hlen:l.length+s.size≤100000000000):
 Calls Tryz.prog 63 #[.pointer (some ⟨b,0,none⟩),.string s] w fun e w'=>e=.returned (.tuple #[.int .i64 s.size,.nilIface])∧Bd w' b (l++s.data.toList)∧Below b w w'∧Lib.OthersKept 5 (some b) w w':=by
 obtain⟨i0,hi,hz0,hz1,hz2⟩:=info_parts zsg;have hlt0:=h.lt;have hbl:(Lib.byteCells l).length=l.length:=Lib.byteCells_length l;have happ:Lib.byteCells l++Lib.strCells s=Lib.byteCells (l++s.data.toList):=by simp[Lib.byteCells,Lib.strCells]
 go_enter Tryz.func63,Tryz.ntmps63;go_wp2_with (go_at_call 91;refine(ze9 b b _ _ h).mono ?_);rintro e w1 ⟨rfl,h1,hb1,hk1⟩;obtain⟨hB,v,hbk,hown,hne⟩:=h1;have c0:w1.cell? ⟨b,0,none⟩=some (.pointer (some ⟨b,0,none⟩)):=by rw[Lib.cell_of_heap hbk];rfl
 have c1:w1.cell? ⟨b,1,none⟩=some v:=by rw[Lib.cell_of_heap hbk];rfl
 go_wp2_with (at_builtin;refine Lib.wpList_append_own_stringF _ rfl _ _ 87 9 rfl b 5 i0 Tryz.underlying87 Tryz.underlying9 hi hz0 hz1 hz2 _ _ _ rfl hown s rfl ?c3 ?c4 ?c5 ?_)
 case c3=>rw[hbl];unfold maxLen;omega
 case c4=>rw[hbl];omega
 case c5=>have:=hb1.size;omega
 intro v' w2 hown' hgrow _
 have hlt:b<w1.heap.size:=by
  rcases Nat.lt_or_ge b w1.heap.size with h'|h'
  · exact h'
  · simp[Array.getElem?_eq_none h'] at hbk
 have hb2:w2.heap[b]? =some (.cells #[.pointer (some ⟨b,0,none⟩),v] 89 (0,0)):=by rw[hgrow.block b hlt (fun e=>hne e.symm)];exact hbk
 have d0:w2.cell? ⟨b,0,none⟩=some (.pointer (some ⟨b,0,none⟩)):=by rw[Lib.cell_of_heap hb2];rfl
 have d1:w2.cell? ⟨b,1,none⟩=some v:=by rw[Lib.cell_of_heap hb2];rfl
 have f1:w2.frozen? ⟨b,1,none⟩=false:=Lib.frozen_of_heap hb2 1
 obtain⟨ao,n',cap,rfl⟩:∃ao n' cap,v'=.slice ao n' cap:=by
  rcases hown'.2 with ⟨hv,_⟩|⟨g,cap,cur,fz,hv,_⟩
  · exact⟨_,_,_,hv⟩
  · exact⟨_,_,_,hv⟩
 go_wp2
 go_ret2
 refine⟨rfl,.inr ?_, ?_,(hk1.grown hgrow (Lib.ownsRowF_kind hown)).setCell ⟨b,1,none⟩ rfl _⟩
 · rw[←happ];exact Lib.BuilderAtF.put (T:=89) (e:=5) hB hb2 (bs':=Lib.byteCells l++Lib.strCells s) (by rw[List.length_append,Lib.strCells_length,hbl,happ];exact hown') (by decide)
 · exact(hb1.grown hgrow (by have:=hb1.size;omega) (fun k hk=>(hown.lt k hk).1)).setCell (p:=⟨b,1,none⟩) hB _
theorem z47 (b:Nat)(l:List UInt8)(w:World)(h:Bd w b l):
 Calls Tryz.prog 36 #[.pointer (some ⟨b,0,none⟩)] w fun e w'=>e=.returned (.string ⟨l.toArray⟩)∧Bd w' b l∧Below b w w':=by
 refine(Tryz.Builder_String_any_k b b l w h (Nat.le_of_lt h.lt)).mono ?_;rintro e w' ⟨rfl,h1,h2, -⟩;exact⟨rfl,h1,h2⟩
theorem Fr.of_below_new {w0 w w':World}{b:Nat}(f:Fr (fun _=>False) w0 w)(hb:w0.heap.size≤b)(h:Below b w w'):Fr (fun _=>False) w0 w':=f.then_ (Fr.of_below (fp:=fun k=>b≤k) h (fun _ _ hk=>hk)) (fun k hk h2=>by omega)
end Go.Proofs.YtnlacmnoocigiaaGreatDoor
namespace Go.Proofs.YtnlacmnoocigiaaGreatDoor
open Go.RowKit
open Go.ChangeMaps (setBlock)
def isK (k:ByteArray)(e:MapEntry):Bool:=match e.key with
 |.string s=>decide (k=s)
 |_=>false
def atK (l:List MapEntry)(k:ByteArray):Option Value:=(l.find? (isK k)).map (·.val)
def SMap (w:World)(b:Nat)(f:ByteArray→Option Value):Prop:=∃es c,w.heap[b]? =some (.map es c)∧(∀e∈es.toList,∃s,e.key=.string s)∧∀k,atK es.toList k=f k
theorem SMap.keep {w w':World}{b:Nat}{f:ByteArray→Option Value}(h:SMap w b f)(hk:w'.heap[b]? =w.heap[b]?):SMap w' b f:=by obtain⟨es,c,h1,h2⟩:=h;exact⟨es,c,hk.trans h1,h2⟩
theorem SMap.made (w:World):SMap (w.alloc (.map #[] 0)) w.heap.size (fun _=>none):=⟨#[],0,heap_alloc_new w _,by simp,fun _=>rfl⟩
theorem zi4 (a b:ByteArray):(a==b)=decide (a=b):=by
 by_cases h:a=b
 · subst h;rw[decide_eq_true rfl];exact(MapKept.bytes_beq _ _).2 rfl
 · rw[decide_eq_false h,Bool.eq_false_iff];exact fun hc=>h ((MapKept.bytes_beq _ _).1 hc)
theorem z81 (k:ByteArray):∀(l:List MapEntry) (i:Nat),(∀e∈l,∃s,e.key=.string s)→
 (Instr.findNow .string (.string k) l i=some none∧l.find? (isK k)=none)∨∃j e,Instr.findNow .string (.string k) l i=some (some (i+j,e.val))∧l[j]? =some e∧e.key=.string k∧l.find? (isK k)=some e∧∀x∈l.take j,isK k x=false
 |[],i,_=>.inl ⟨rfl,rfl⟩
 |e::l,i,h=>by
  obtain⟨s,hs⟩:=h e (.head _);by_cases hk:k=s
  · subst hk;refine .inr ⟨0,e, ?_,rfl,hs, ?_,by simp⟩
    · simp[Instr.findNow,hs,Instr.sameNow,zi4]
    · simp[isK,hs]
  · have hb:(k==s)=false:=by rw[zi4];exact decide_eq_false hk
    have h1:isK k e=false:=by simp[isK,hs,hk]
    rcases z81 k l (i+1) (fun x hx=>h x (.tail _ hx)) with ⟨h2,h3⟩|⟨j,e',h2,h3,h4,h5,h6⟩
    · exact .inl ⟨by simp[Instr.findNow,hs,Instr.sameNow,hb,h2],by rw[List.find?_cons,h1];exact h3⟩
    · refine .inr ⟨j+1,e',by simp[Instr.findNow,hs,Instr.sameNow,hb,h2];omega,by simpa using h3,h4,by rw[List.find?_cons,h1];exact h5, ?_⟩;intro x hx;rw[List.take_succ_cons,List.mem_cons] at hx;rcases hx with rfl|hx
      · exact h1
      · exact h6 x hx
section
variable {P : Program} {T K E : TypeId}
theorem za3 (hT:P.underlying T=some (.map K E))(hK:P.underlying K=some .string){w:World}{b:Nat}{f:ByteArray→Option Value}(h:SMap w b f)(k:ByteArray){z:Value}(hz:(zeroValue E).run P w=.ok z w)(ok:Bool):
 (Instr.lookup T (.map (some b)) (.string k) ok).run P w=.ok (match f k with
  |some v=>if ok then .tuple #[v,.bool true] else v
  |none=>if ok then .tuple #[z,.bool false] else z) w:=by
 obtain⟨es,c,h1,h2,h3⟩:=h;have hc:∀em,(Instr.checkKey em 10000 K (.string k)).run P w=.ok () w:=fun em=>MapKept.run_checkKey (k:=.string k) hK (by simp[MapKept.IsKey]) em 9999;have hf:=h3 k;rcases z81 k es.toList 0 h2 with ⟨g1,g2⟩|⟨j,e,g1,g2,g3,g4, -⟩
 · have:f k=none:=by rw[←hf,atK,g2];rfl
   rw[this];simp only[Instr.lookup,Sem.run_bind,run_underlying hT,Result.andThen,MapKept.run_getObj_map h1,Sem.run_pure,hc,MapKept.run_findKey hK g1,hz]
 · have:f k=some e.val:=by rw[←hf,atK,g4];rfl
   rw[this];simp only[Instr.lookup,Sem.run_bind,run_underlying hT,Result.andThen,MapKept.run_getObj_map h1,Sem.run_pure,hc,MapKept.run_findKey hK g1]
theorem zfm (n:Nat)(k:ByteArray):Instr.sameBits n (.string k) (.string k)=true:=by cases n<;>simp[Instr.sameBits,zi4]
theorem zbd (k:ByteArray)(v:Value):∀(l:List MapEntry) (j:Nat) (e:MapEntry),l[j]? =some e→e.key=.string k→(∀x∈l.take j,isK k x=false)→(∀x∈l,∃s,x.key=.string s)→
 ∀q,atK (l.modify j fun e=>{e with key:=.string k,val:=v}) q=if q=k then some v else atK l q
 |[],j,e,h,_,_,_=>by simp at h
 |x::l,0,e,h,hk,_,hs=>by
  intro q;simp only[List.getElem?_cons_zero,Option.some.injEq] at h;subst h;by_cases hq:q=k
  · simp[List.modify,atK,isK,hq]
  · simp[List.modify,atK,isK,hq,hk,List.find?_cons]
 |x::l,j+1,e,h,hk,hp,hs=>by
  intro q;have h1:=hp x (by simp);have ih:=zbd k v l j e (by simpa using h) hk (fun y hy=>hp y (by simp[hy])) (fun y hy=>hs y (.tail _ hy)) q;obtain⟨s,hs⟩:=hs x (.head _);rw[List.modify_succ_cons];by_cases hx:isK q x=true
  · have hne:q≠k:=fun e=>by subst e;rw[h1] at hx;cases hx
    simp[atK,List.find?_cons,hx,hne]
  · have hx:isK q x=false:=by simpa using hx
    simp only[atK,List.find?_cons,hx] at ih⊢;exact ih
theorem z6r (hT:P.underlying T=some (.map K E))(hK:P.underlying K=some .string){w:World}{b:Nat}{f:ByteArray→Option Value}(h:SMap w b f)(k:ByteArray)(v:Value):
 ∃w',(Instr.mapUpdate T (.map (some b)) (.string k) v).run P w=.ok () w'∧SMap w' b (fun q=>if q=k then some v else f q)∧Fr (fun j=>j=b) w w'∧w'.heap.size=w.heap.size:=by
 obtain⟨es,c,h1,h2,h3⟩:=h;have hc:∀em,(Instr.checkKey em 10000 K (.string k)).run P w=.ok () w:=fun em=>MapKept.run_checkKey (k:=.string k) hK (by simp[MapKept.IsKey]) em 9999;have hfr:∀o:Obj,Fr (fun j=>j=b) w {w with heap:=w.heap.setIfInBounds b o}:=fun o=>⟨rfl,rfl,rfl,by simp,fun j hj hn=>(MapKept.heap_set (o':=o) h1).2 j hn⟩;have hsz:∀o:Obj,({w with heap:=w.heap.setIfInBounds b o}:World).heap.size=w.heap.size:=fun o=>by simp
 rcases z81 k es.toList 0 h2 with ⟨g1,g2⟩|⟨j,e,g1,g2,g3,g4,g5⟩
 · refine⟨_, ?_,⟨es.push {key:=.string k,val:=v,born:=c},c+1,(MapKept.heap_set h1).1, ?_,fun q=> ?_⟩,hfr _,hsz _⟩
   · simp only[Instr.mapUpdate,Sem.run_bind,run_underlying hT,Result.andThen,MapKept.run_getObj_map h1,hc,MapKept.run_findKey hK g1,MapKept.run_setObj_map _ h1]
   · intro x hx;simp only[Array.toList_push,List.mem_append,List.mem_singleton] at hx;rcases hx with hx|rfl
     · exact h2 x hx
     · exact⟨k,rfl⟩
   · simp only[Array.toList_push,atK,List.find?_append];by_cases hq:q=k
     · subst hq;rw[g2];simp[isK,atK]
     · rw[if_neg hq,←h3 q]
       cases hf:List.find? (isK q) es.toList with
       |some x=>simp[atK,hf]
       |none=>simp[isK,hq,atK,hf]
 · have hk:(((es[0+j]?).map (·.key)).getD (.string k))=.string k:=by rw[Nat.zero_add,←Array.getElem?_toList,g2];exact g3
   have hst:(Instr.keyThatStays (.string k) (.string k)).run P w=.ok (.string k) w:=by simp[Instr.keyThatStays,zfm]
   refine⟨_, ?_,⟨es.modify j fun e=>{e with key:=.string k,val:=v},c,(MapKept.heap_set h1).1, ?_,fun q=> ?_⟩,hfr _,hsz _⟩
   · rw[Nat.zero_add] at hk;simp only[Instr.mapUpdate,Sem.run_bind,run_underlying hT,Result.andThen,MapKept.run_getObj_map h1,hc,MapKept.run_findKey hK g1,Nat.zero_add];rw[hk,hst];simp only[MapKept.run_setObj_map _ h1]
   · intro x hx;rw[Array.toList_modify] at hx;obtain⟨i,hi⟩:=List.getElem?_of_mem hx;rw[List.getElem?_modify] at hi
     cases hq:es.toList[i]? with
     |none=>rw[hq] at hi;simp at hi
     |some y=>
      rw[hq] at hi;simp only[Option.map_eq_map,Option.map_some,Option.some.injEq] at hi;by_cases hji:j=i
      · rw[if_pos hji] at hi;exact⟨k,by rw[←hi]⟩
      · rw[if_neg hji] at hi;exact h2 x (by rw[←hi];exact List.mem_of_getElem? hq)
   · rw[Array.toList_modify,zbd k v es.toList j e g2 g3 g5 h2 q];show (if q=k then some v else atK es.toList q)=if q=k then some v else f q;rw[h3 q]
end
section wp
variable {P : Program} {ops : Array Oper} {w : World} {rest : List Oper} {o : Oper} {a : Act} {Q : Exit → Act → World → Prop} {T K E : TypeId}
theorem z1i (hg:o.guard=none){m k x:Operand}(ho:o.op=.mapUpdate T m k x∨o.op=.insert T m k x)(hT:P.underlying T=some (.map K E))(hK:P.underlying K=some .string){b:Nat}{f:ByteArray→Option Value}
 (hm:a.eval m=.map (some b)) {kb:ByteArray} (hk:a.eval k=.string kb) {v:Value} (hv:a.eval x=v) (h:SMap w b f)
 (H:∀w',SMap w' b (fun q=>if q=kb then some v else f q)→Fr (fun j=>j=b) w w'→w'.heap.size=w.heap.size→wpList P ops Q rest (a.put o.dst undef) w'):wpList P ops Q (o::rest) a w:=by
 obtain⟨w',hrun,h1,h2,h3⟩:=z6r hT hK h kb v;refine wpList_plain hg fun K' hK'=> ?_;unfold Oper.wp;rcases ho with ho|ho
 all_goals
  simp[execOp,ho,hm,hk,hv,hrun,Result.andThen];exact hK' _ _ (H w' h1 h2 h3)
end wp
end Go.Proofs.YtnlacmnoocigiaaGreatDoor
namespace Go.Proofs.YtnlacmnoocigiaaGreatDoor
open Go.RowKit Go.Lib
attribute [local go_sem ↓] Go.wp_at_zero Go.wp_at_succ
structure St (w:World):Prop where
 ub:UB w
 ml:∃m,w.cell? ⟨1,0,none⟩=some (.int .i64 m)
 es:∃t p,w.cell? ⟨4,0,none⟩=some (.iface t p)
theorem St.same {w w':World}(h:St w)(f:Fr (fun _=>False) w w'):St w' where
 ub:=h.ub.same f
 ml:=by obtain⟨m,hm⟩:=h.ml;exact⟨m,by rw[f.cell (World.block_lt_of_cell? w _ hm) (fun h=>h)];exact hm⟩
 es:=by obtain⟨t,p,hm⟩:=h.es;exact⟨t,p,by rw[f.cell (World.block_lt_of_cell? w _ hm) (fun h=>h)];exact hm⟩
def z1y (n c:List UInt8)(i:Nat):MapEntry:={key:=.string ⟨n.toArray⟩,val:=.agg #[.string ⟨c.toArray⟩],born:=i}
def nameEs :Array MapEntry:= #[z1y [97,109,112] [38] 0,z1y [108,116] [60] 1,z1y [103,116] [62] 2,z1y [113,117,111,116] [34] 3,z1y [97,112,111,115] [39] 4]
theorem zbe (w:World)(es:Array MapEntry)(c:Nat)(k:ByteArray)(v:Value)(h:Instr.findNow .string (.string k) es.toList 0=some none):
 (Instr.mapUpdate 160 (.map (some w.heap.size)) (.string k) v).run Tryz.prog (w.alloc (.map es c))=.ok () (w.alloc (.map (es.push {key:=.string k,val:=v,born:=c}) (c+1))):=by
 have hb:=heap_alloc_new w (.map es c);have hc:∀em,(Instr.checkKey em 10000 9 (.string k)).run Tryz.prog (w.alloc (.map es c))=.ok () (w.alloc (.map es c)):=fun em=>MapKept.run_checkKey (k:=.string k) Tryz.underlying9 (by simp[MapKept.IsKey]) em 9999
 have hp:∀(x:Obj),({w.alloc (.map es c) with heap:=(w.alloc (.map es c)).heap.setIfInBounds w.heap.size x}:World)=w.alloc x:=fun x=>by
  have h2:∀(h:Array Obj) (x y:Obj),(h.push x).setIfInBounds h.size y=h.push y:=by intro h x y;apply Array.toList_inj.1;simp
  show ({w.alloc (.map es c) with heap:=(w.heap.push (.map es c)).setIfInBounds w.heap.size x}:World)=_;rw[h2];rfl
 simp only[Instr.mapUpdate,Sem.run_bind,run_underlying Tryz.underlying160,Result.andThen,MapKept.run_getObj_map hb,hc,MapKept.run_findKey Tryz.underlying9 h,MapKept.run_setObj_map _ hb,hp]
set_option maxRecDepth 100000 in
set_option maxHeartbeats 1000000 in
theorem zfn (w:World):Calls Tryz.prog 92 #[] w fun e w'=>e=.returned (.map (some w.heap.size))∧w.alloc (.map nameEs 5)=w':=by have hmm:= @run_makeMap Tryz.prog;have h1:=zbe w #[] 0 ⟨#[97,109,112]⟩ (.agg #[.string ⟨#[38]⟩]) rfl;have h2:=zbe w #[z1y [97,109,112] [38] 0] 1 ⟨#[108,116]⟩ (.agg #[.string ⟨#[60]⟩]) (by kernel_rfl);have h3:=zbe w #[z1y [97,109,112] [38] 0,z1y [108,116] [60] 1] 2 ⟨#[103,116]⟩ (.agg #[.string ⟨#[62]⟩]) (by kernel_rfl);have h4:=zbe w #[z1y [97,109,112] [38] 0,z1y [108,116] [60] 1,z1y [103,116] [62] 2] 3 ⟨#[113,117,111,116]⟩ (.agg #[.string ⟨#[34]⟩]) (by kernel_rfl);have h5:=zbe w #[z1y [97,109,112] [38] 0,z1y [108,116] [60] 1,z1y [103,116] [62] 2,z1y [113,117,111,116] [34] 3] 4 ⟨#[97,112,111,115]⟩ (.agg #[.string ⟨#[39]⟩]) (by kernel_rfl);change _=Result.ok () (w.alloc (.map #[z1y [97,109,112] [38] 0] 1)) at h1;change _=Result.ok () (w.alloc (.map #[z1y [97,109,112] [38] 0,z1y [108,116] [60] 1] 2)) at h2;change _=Result.ok () (w.alloc (.map #[z1y [97,109,112] [38] 0,z1y [108,116] [60] 1,z1y [103,116] [62] 2] 3)) at h3;change _=Result.ok () (w.alloc (.map #[z1y [97,109,112] [38] 0,z1y [108,116] [60] 1,z1y [103,116] [62] 2,z1y [113,117,111,116] [34] 3] 4)) at h4;change _=Result.ok () (w.alloc (.map nameEs 5)) at h5;go_enter Tryz.func92,Tryz.ntmps92;go_wp2;go_ret;exact⟨rfl,rfl⟩
def zvv (k:ByteArray):Option Value:=match nameL.find? (fun p=>p.1==k.data.toList) with
 |some p=>some (.agg #[.string ⟨p.2.toArray⟩])
 |none=>none
theorem zob (w:World):SMap (w.alloc (.map nameEs 5)) w.heap.size zvv:=by
 refine⟨nameEs,5,heap_alloc_new w _, ?_,fun k=> ?_⟩
 · intro e he;simp only[nameEs,List.mem_cons,List.not_mem_nil,or_false] at he;rcases he with rfl|rfl|rfl|rfl|rfl<;>exact⟨_,rfl⟩
 · have hk:∀n c i,isK k (z1y n c i)=(n==k.data.toList):=fun n c i=>by
    rw[Bool.eq_iff_iff];simp only[isK,z1y,decide_eq_true_eq,beq_iff_eq];constructor
    · intro h;rw[h]
    · intro h;rw[h]
   simp only[atK,nameEs,List.find?_cons,hk,zvv,nameL,List.find?_nil];generalize ([97,109,112]==k.data.toList)=b1;generalize ([108,116]==k.data.toList)=b2;generalize ([103,116]==k.data.toList)=b3;generalize ([113,117,111,116]==k.data.toList)=b4;generalize ([97,112,111,115]==k.data.toList)=b5;cases b1<;>cases b2<;>cases b3<;>cases b4<;>cases b5<;>rfl
theorem zfo (w:World):(zeroValue 163).run Tryz.prog w=.ok (.agg #[.string ⟨#[]⟩]) w:=by kernel_rfl
end Go.Proofs.YtnlacmnoocigiaaGreatDoor
