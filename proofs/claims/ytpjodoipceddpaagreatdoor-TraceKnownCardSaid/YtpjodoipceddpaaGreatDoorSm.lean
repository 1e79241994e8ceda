/- Maps keyed by strings: what is at a key, a store, a range, as equations on worlds. Over any program. -/
import Derived.Test.YtpjodoipceddpaaGreatDoorBase
import Derived.Maps.RangeRun
import Derived.MapKept
namespace Go.Proofs.YtpjodoipceddpaaGreatDoor
open Go.RowKit
open Go.ChangeMaps (setBlock)
def isK (k:ByteArray) (e:MapEntry):Bool:=match e.key with
 |.string s=>decide (k=s)
 |_=>false
def atK (l:List MapEntry) (k:ByteArray):Option Value:=(l.find? (isK k)).map (·.val)
def SMap (w:World) (b:Nat) (f:ByteArray→Option Value):Prop:=
 ∃es c,w.heap[b]? =some (.map es c)∧(∀e∈es.toList,∃s,e.key=.string s)∧∀k,atK es.toList k=f k
theorem SMap.lt {w:World} {b:Nat} {f:ByteArray→Option Value} (h:SMap w b f):b<w.heap.size:=by
 obtain⟨es,c,h1, -⟩:=h
 exact lt_of_block h1
theorem SMap.keep {w w':World} {b:Nat} {f:ByteArray→Option Value} (h:SMap w b f) (hk:w'.heap[b]? =w.heap[b]?):SMap w' b f:=by
 obtain⟨es,c,h1,h2⟩:=h
 exact⟨es,c,hk.trans h1,h2⟩
theorem SMap.fr {fp:Nat→Prop} {w w':World} {b:Nat} {f:ByteArray→Option Value} (h:SMap w b f) (hf:Fr fp w w') (hn:¬fp b):SMap w' b f:=h.keep (hf.block b h.lt hn)
theorem SMap.made (w:World):SMap (w.alloc (.map #[] 0)) w.heap.size (fun _=>none):=⟨#[],0,heap_alloc_new w _,by simp,fun _=>rfl⟩
theorem beq_str (a b:ByteArray):(a==b)=decide (a=b):=by
 by_cases h:a=b
 · subst h
   rw[decide_eq_true rfl]
   exact(MapKept.bytes_beq _ _).2 rfl
 · rw[decide_eq_false h,Bool.eq_false_iff]
   exact fun hc=>h ((MapKept.bytes_beq _ _).1 hc)
theorem findNow_str (k:ByteArray):∀(l:List MapEntry) (i:Nat),(∀e∈l,∃s,e.key=.string s)→
 (Instr.findNow .string (.string k) l i=some none∧l.find? (isK k)=none)∨∃j e,Instr.findNow .string (.string k) l i=some (some (i+j,e.val))∧l[j]? =some e∧e.key=.string k∧l.find? (isK k)=some e∧∀x∈l.take j,isK k x=false
 |[],i,_=>.inl ⟨rfl,rfl⟩
 |e::l,i,h=>by
  obtain⟨s,hs⟩:=h e (.head _)
  by_cases hk:k=s
  · subst hk
    refine .inr ⟨0,e, ?_,rfl,hs, ?_,by simp⟩
    · simp[Instr.findNow,hs,Instr.sameNow,beq_str]
    · simp[isK,hs]
  · have hb:(k==s)=false:=by rw[beq_str];exact decide_eq_false hk
    have h1:isK k e=false:=by simp[isK,hs,hk]
    rcases findNow_str k l (i+1) (fun x hx=>h x (.tail _ hx)) with ⟨h2,h3⟩|⟨j,e',h2,h3,h4,h5,h6⟩
    · exact .inl ⟨by simp[Instr.findNow,hs,Instr.sameNow,hb,h2],by rw[List.find?_cons,h1];exact h3⟩
    · refine .inr ⟨j+1,e',by simp[Instr.findNow,hs,Instr.sameNow,hb,h2];omega,by simpa using h3,h4,by rw[List.find?_cons,h1];exact h5, ?_⟩
      intro x hx
      rw[List.take_succ_cons,List.mem_cons] at hx
      rcases hx with rfl|hx
      · exact h1
      · exact h6 x hx
section
variable {P : Program} {T K E : TypeId}
theorem run_lookup_s (hT:P.underlying T=some (.map K E)) (hK:P.underlying K=some .string) {w:World} {b:Nat} {f:ByteArray→Option Value} (h:SMap w b f) (k:ByteArray) {z:Value} (hz:(zeroValue E).run P w=.ok z w) (ok:Bool):
 (Instr.lookup T (.map (some b)) (.string k) ok).run P w=.ok (match f k with
  |some v=>if ok then .tuple #[v,.bool true] else v
  |none=>if ok then .tuple #[z,.bool false] else z) w:=by
 obtain⟨es,c,h1,h2,h3⟩:=h
 have hc:∀em,(Instr.checkKey em 10000 K (.string k)).run P w=.ok () w:=fun em=>MapKept.run_checkKey (k:=.string k) hK (by simp[MapKept.IsKey]) em 9999
 have hf:=h3 k
 rcases findNow_str k es.toList 0 h2 with ⟨g1,g2⟩|⟨j,e,g1,g2,g3,g4, -⟩
 · have:f k=none:=by rw[←hf,atK,g2];rfl
   rw[this]
   simp only[Instr.lookup,Sem.run_bind,run_underlying hT,Result.andThen,MapKept.run_getObj_map h1,Sem.run_pure,hc,MapKept.run_findKey hK g1,hz]
 · have:f k=some e.val:=by rw[←hf,atK,g4];rfl
   rw[this]
   simp only[Instr.lookup,Sem.run_bind,run_underlying hT,Result.andThen,MapKept.run_getObj_map h1,Sem.run_pure,hc,MapKept.run_findKey hK g1]
theorem sameBits_str (n:Nat) (k:ByteArray):Instr.sameBits n (.string k) (.string k)=true:=by
 cases n<;>simp[Instr.sameBits,beq_str]
theorem find_modify (k:ByteArray) (v:Value):∀(l:List MapEntry) (j:Nat) (e:MapEntry),l[j]? =some e→e.key=.string k→(∀x∈l.take j,isK k x=false)→(∀x∈l,∃s,x.key=.string s)→
 ∀q,atK (l.modify j fun e=>{e with key:=.string k,val:=v}) q=if q=k then some v else atK l q
 |[],j,e,h,_,_,_=>by simp at h
 |x::l,0,e,h,hk,_,hs=>by
  intro q
  simp only[List.getElem?_cons_zero,Option.some.injEq] at h
  subst h
  by_cases hq:q=k
  · simp[List.modify,atK,isK,hq]
  · simp[List.modify,atK,isK,hq,hk,List.find?_cons]
 |x::l,j+1,e,h,hk,hp,hs=>by
  intro q
  have h1:=hp x (by simp)
  have ih:=find_modify k v l j e (by simpa using h) hk (fun y hy=>hp y (by simp[hy])) (fun y hy=>hs y (.tail _ hy)) q
  obtain⟨s,hs⟩:=hs x (.head _)
  rw[List.modify_succ_cons]
  by_cases hx:isK q x=true
  · have hne:q≠k:=fun e=>by subst e;rw[h1] at hx;cases hx
    simp[atK,List.find?_cons,hx,hne]
  · have hx:isK q x=false:=by simpa using hx
    simp only[atK,List.find?_cons,hx] at ih⊢
    exact ih
theorem run_update_s (hT:P.underlying T=some (.map K E)) (hK:P.underlying K=some .string) {w:World} {b:Nat} {f:ByteArray→Option Value} (h:SMap w b f) (k:ByteArray) (v:Value):
 ∃w',(Instr.mapUpdate T (.map (some b)) (.string k) v).run P w=.ok () w'∧SMap w' b (fun q=>if q=k then some v else f q)∧Fr (fun j=>j=b) w w'∧w'.heap.size=w.heap.size:=by
 obtain⟨es,c,h1,h2,h3⟩:=h
 have hc:∀em,(Instr.checkKey em 10000 K (.string k)).run P w=.ok () w:=fun em=>MapKept.run_checkKey (k:=.string k) hK (by simp[MapKept.IsKey]) em 9999
 have hfr:∀o:Obj,Fr (fun j=>j=b) w {w with heap:=w.heap.setIfInBounds b o}:=fun o=>⟨rfl,rfl,rfl,by simp,fun j hj hn=>(MapKept.heap_set (o':=o) h1).2 j hn⟩
 have hsz:∀o:Obj,({w with heap:=w.heap.setIfInBounds b o}:World).heap.size=w.heap.size:=fun o=>by simp
 rcases findNow_str k es.toList 0 h2 with ⟨g1,g2⟩|⟨j,e,g1,g2,g3,g4,g5⟩
 · refine⟨_, ?_,⟨es.push {key:=.string k,val:=v,born:=c},c+1,(MapKept.heap_set h1).1, ?_,fun q=> ?_⟩,hfr _,hsz _⟩
   · simp only[Instr.mapUpdate,Sem.run_bind,run_underlying hT,Result.andThen,MapKept.run_getObj_map h1,hc,MapKept.run_findKey hK g1,MapKept.run_setObj_map _ h1]
   · intro x hx
     simp only[Array.toList_push,List.mem_append,List.mem_singleton] at hx
     rcases hx with hx|rfl
     · exact h2 x hx
     · exact⟨k,rfl⟩
   · simp only[Array.toList_push,atK,List.find?_append]
     by_cases hq:q=k
     · subst hq
       rw[g2]
       simp[isK,atK]
     · rw[if_neg hq,←h3 q]
       cases hf:List.find? (isK q) es.toList with
       |some x=>simp[atK,hf]
       |none=>simp[isK,hq,atK,hf]
 · have hk:(((es[0+j]?).map (·.key)).getD (.string k))=.string k:=by
    rw[Nat.zero_add,←Array.getElem?_toList,g2]
    exact g3
   have hst:(Instr.keyThatStays (.string k) (.string k)).run P w=.ok (.string k) w:=by simp[Instr.keyThatStays,sameBits_str]
   refine⟨_, ?_,⟨es.modify j fun e=>{e with key:=.string k,val:=v},c,(MapKept.heap_set h1).1, ?_,fun q=> ?_⟩,hfr _,hsz _⟩
   · rw[Nat.zero_add] at hk
     simp only[Instr.mapUpdate,Sem.run_bind,run_underlying hT,Result.andThen,MapKept.run_getObj_map h1,hc,MapKept.run_findKey hK g1,Nat.zero_add]
     rw[hk,hst]
     simp only[MapKept.run_setObj_map _ h1]
   · intro x hx
     rw[Array.toList_modify] at hx
     obtain⟨i,hi⟩:=List.getElem?_of_mem hx
     rw[List.getElem?_modify] at hi
     cases hq:es.toList[i]? with
     |none=>rw[hq] at hi;simp at hi
     |some y=>
      rw[hq] at hi
      simp only[Option.map_eq_map,Option.map_some,Option.some.injEq] at hi
      by_cases hji:j=i
      · rw[if_pos hji] at hi
        exact⟨k,by rw[←hi]⟩
      · rw[if_neg hji] at hi
        exact h2 x (by rw[←hi];exact List.mem_of_getElem? hq)
   · rw[Array.toList_modify,find_modify k v es.toList j e g2 g3 g5 h2 q]
     show (if q=k then some v else atK es.toList q)=if q=k then some v else f q
     rw[h3 q]
end
section wp
variable {P : Program} {ops : Array Oper} {w : World} {rest : List Oper} {o : Oper} {a : Act} {Q : Exit → Act → World → Prop} {T K E : TypeId}
theorem wpList_update_s (hg:o.guard=none) {m k x:Operand} (ho:o.op=.mapUpdate T m k x∨o.op=.insert T m k x) (hT:P.underlying T=some (.map K E)) (hK:P.underlying K=some .string) {b:Nat} {f:ByteArray→Option Value}
 (hm:a.eval m=.map (some b)) {kb:ByteArray} (hk:a.eval k=.string kb) {v:Value} (hv:a.eval x=v) (h:SMap w b f)
 (H:∀w',SMap w' b (fun q=>if q=kb then some v else f q)→Fr (fun j=>j=b) w w'→w'.heap.size=w.heap.size→wpList P ops Q rest (a.put o.dst undef) w'):wpList P ops Q (o::rest) a w:=by
 obtain⟨w',hrun,h1,h2,h3⟩:=run_update_s hT hK h kb v
 refine wpList_plain hg fun K' hK'=> ?_
 unfold Oper.wp
 rcases ho with ho|ho
 all_goals
  simp[execOp,ho,hm,hk,hv,hrun,Result.andThen]
  exact hK' _ _ (H w' h1 h2 h3)
end wp
end Go.Proofs.YtpjodoipceddpaaGreatDoor
