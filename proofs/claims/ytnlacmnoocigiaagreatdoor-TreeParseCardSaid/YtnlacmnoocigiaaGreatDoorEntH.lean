/- entity: Encode. -/
import Derived.Test.YtnlacmnoocigiaaGreatDoorTreJk
import Derived.StillTailTactics
namespace Go.Proofs.YtnlacmnoocigiaaGreatDoor
open Go.RowKit Go.Lib
open Go.ChangeMaps (setBlock)
attribute [local go_sem ↓] Go.wp_at_zero Go.wp_at_succ
theorem SMap.congr {w:World}{b:Nat}{f g:ByteArray→Option Value}(h:SMap w b f)(hfg:∀k,f k=g k):SMap w b g:=by obtain⟨es,c,h1,h2,h3⟩:=h;exact⟨es,c,h1,h2,fun k=>(h3 k).trans (hfg k)⟩
def z3j (n:List UInt8):Value:=.agg #[.string ⟨n.toArray⟩]
def z48 (attr:Bool)(S:List Nat)(k:ByteArray):Option Value:=
 if k=⟨#[38]⟩∧0∈S then some (z3j [97,109,112]) else if k=⟨#[60]⟩∧1∈S then some (z3j [108,116]) else if k=⟨#[62]⟩∧2∈S then some (z3j [103,116])
 else if k=⟨#[34]⟩∧3∈S∧attr=true then some (z3j [113,117,111,116]) else none
def tabF (attr:Bool)(k:ByteArray):Option (List UInt8):=
 if k=⟨#[38]⟩ then some [97,109,112] else if k=⟨#[60]⟩ then some [108,116] else if k=⟨#[62]⟩ then some [103,116] else if k=⟨#[13]⟩ then some [35,49,51]
 else if k=⟨#[34]⟩∧attr=true then some [113,117,111,116] else if k=⟨#[9]⟩∧attr=true then some [35,57] else if k=⟨#[10]⟩∧attr=true then some [35,49,48] else none
def putW (attr:Bool)(x:ByteArray):List UInt8:=match tabF attr x with
 |some n=>38::(n++[59])
 |none=>x.data.toList
theorem zxi (b c:UInt8):((⟨#[b]⟩:ByteArray)=⟨#[c]⟩)=(b=c):=by simp
theorem zsw (attr:Bool)(b:UInt8):putW attr ⟨#[b]⟩=escL attr b:=by
 unfold putW tabF escL;simp only[zxi]
 repeat' split
 all_goals simp_all
 all_goals (subst_vars;rfl)
theorem zeg (a:Array Nat)(i j:Nat):j∈(a.push i).toList↔j∈a.toList∨j=i:=by simp
set_option maxRecDepth 100000 in
set_option maxHeartbeats 4000000 in
theorem zlr (attr:Bool)(q m b:Nat)(acc:List UInt8)(x:ByteArray)(w:World)(hq:w.cell? ⟨q,0,none⟩=some (.map (some m)))(hm:SMap w m (fun k=>(tabF attr k).map z3j))(hb:Bd w b acc)(hx:x.size≤10)(hacc:acc.length≤10000000):
 Calls Tryz.prog 93 #[.string x,.pointer (some ⟨q,0,none⟩),.pointer (some ⟨b,0,none⟩)] w fun e w'=>e=.returned (.tuple #[])∧Bd w' b (acc++putW attr x)∧Below b w w':=by
 have hlk:=za3 (P:=Tryz.prog) Tryz.underlying160 Tryz.underlying9 hm x (zfo w) true;have hblt:=hb.lt
 cases ht:tabF attr x with
 |some n=>
  have hn:n.length≤4:=by
   unfold tabF at ht
   repeat' split at ht
   all_goals first|(simp only[Option.some.injEq] at ht;subst ht;simp)|cases ht
  have hp:putW attr x=38::(n++[59]):=by unfold putW;rw[ht]
  simp only[ht,Option.map_some,if_true,z3j] at hlk;rw[hp];obtain⟨N,hN⟩:∃N:ByteArray,(⟨n.toArray⟩:ByteArray)=N:=⟨_,rfl⟩;have hNn:N.data.toList=n:=by rw[←hN]
  have hNz:N.size≤4:=by have:N.data.toList.length=N.size:=rfl;rw[hNn] at this;omega
  rw[hN] at hlk;have hcat:((⟨#[38]⟩:ByteArray)++N++⟨#[59]⟩).data.toList=38::(n++[59]):=by rw[zam,zam,hNn];rfl
  have hcz:((⟨#[38]⟩:ByteArray)++N++⟨#[59]⟩).size≤6:=by rw[ByteArray.size_append,ByteArray.size_append];show 1+N.size+1≤6;omega
  have HW:=fun(W:World) (hW:Bd W b acc)=>z0k b acc (⟨#[38]⟩++N++⟨#[59]⟩) W hW (by omega);rw[hcat] at HW;have HW:=hide HW;have HB:=hide hb;have hfa:Hid (∀o,Bd (w.alloc o) b acc):=fun o=>hb.fr (Fr.alloc (Fr.refl _ _) _);have H1:=hide (heap_alloc_new w (.cells #[.string N] 163));clear ht hp hm hb hcat hcz hNn hN;go_enter Tryz.func93,Tryz.ntmps93;go_wp2_with (go_at_call 63;refine(HW.out _ (hfa.out _)).mono ?_;rintro e w2 ⟨rfl,b2,g2, -⟩)
  go_end0
  exact⟨rfl,b2,((Below.refl b w).alloc (Nat.le_of_lt hblt) _).trans g2⟩
 |none=>
  have hp:putW attr x=x.data.toList:=by unfold putW;rw[ht]
  simp only[ht,Option.map_none,if_true] at hlk;rw[hp];have HW:=hide (fun(W:World) (hW:Bd W b acc)=>z0k b acc x W hW (by omega));have HB:=hide hb;have hfa:Hid (∀o,Bd (w.alloc o) b acc):=fun o=>hb.fr (Fr.alloc (Fr.refl _ _) _);clear ht hp hm hb;go_enter Tryz.func93,Tryz.ntmps93;go_wp2_with (go_at_call 63;refine(HW.out _ (hfa.out _)).mono ?_;rintro e w2 ⟨rfl,b2,g2, -⟩)
  go_end0
  exact⟨rfl,b2,((Below.refl b w).alloc (Nat.le_of_lt hblt) _).trans g2⟩
theorem z1v (attr:Bool)(S:Array Nat)(k:ByteArray):
 (z48 attr (S.push 0).toList k=if k=⟨#[38]⟩ then some (z3j [97,109,112]) else z48 attr S.toList k)∧
 (z48 attr (S.push 1).toList k=if k=⟨#[60]⟩ then some (z3j [108,116]) else z48 attr S.toList k)∧
 (z48 attr (S.push 2).toList k=if k=⟨#[62]⟩ then some (z3j [103,116]) else z48 attr S.toList k)∧
 (z48 true (S.push 3).toList k=if k=⟨#[34]⟩ then some (z3j [113,117,111,116]) else z48 true S.toList k)∧
 (z48 false (S.push 3).toList k=z48 false S.toList k)∧(z48 attr (S.push 4).toList k=z48 attr S.toList k):=by
 unfold z48;simp only[zeg];refine⟨?_, ?_, ?_, ?_, ?_, ?_⟩
 all_goals
  by_cases h1:k=⟨#[38]⟩
  · subst h1;simp
  · by_cases h2:k=⟨#[60]⟩
    · subst h2;simp
    · by_cases h3:k=⟨#[62]⟩
      · subst h3;simp
      · by_cases h4:k=⟨#[34]⟩
        · subst h4;simp
        · simp[h1,h2,h3,h4]
theorem zk5 (attr:Bool)(S:Array Nat)(h:∀i,i<5→i∈S.toList)(k:ByteArray):
 (if k=⟨#[13]⟩ then some (z3j [35,49,51]) else z48 attr S.toList k)=((if k=⟨#[13]⟩ then some [35,49,51] else if k=⟨#[38]⟩ then some [97,109,112] else if k=⟨#[60]⟩ then some [108,116] else if k=⟨#[62]⟩ then some [103,116] else if k=⟨#[34]⟩∧attr=true then some [113,117,111,116] else none):Option (List UInt8)).map z3j:=by
 unfold z48;simp only[h 0 (by omega),h 1 (by omega),h 2 (by omega),h 3 (by omega),and_true,true_and]
 repeat' split
 all_goals simp_all
theorem zoo (k:ByteArray):(if k=⟨#[13]⟩ then some [35,49,51] else if k=⟨#[38]⟩ then some [97,109,112] else if k=⟨#[60]⟩ then some [108,116] else if k=⟨#[62]⟩ then some [103,116] else if k=⟨#[34]⟩∧false=true then some [113,117,111,116] else none:Option (List UInt8))=tabF false k:=by
 unfold tabF;by_cases h1:k=⟨#[13]⟩
 · subst h1;simp
 · simp[h1]
theorem zsx (k:ByteArray):(if k=⟨#[10]⟩ then some (z3j [35,49,48]) else if k=⟨#[9]⟩ then some (z3j [35,57]) else((if k=⟨#[13]⟩ then some [35,49,51] else if k=⟨#[38]⟩ then some [97,109,112] else if k=⟨#[60]⟩ then some [108,116] else if k=⟨#[62]⟩ then some [103,116] else if k=⟨#[34]⟩∧true=true then some [113,117,111,116] else none):Option (List UInt8)).map z3j)=(tabF true k).map z3j:=by
 unfold tabF;by_cases h1:k=⟨#[13]⟩
 · subst h1;simp
 · by_cases h2:k=⟨#[9]⟩
   · subst h2;simp
   · by_cases h3:k=⟨#[10]⟩
     · subst h3;simp
     · simp[h1,h2,h3]
structure EncR (w wr:World)(attr:Bool)(m q nb it:Nat)(S:Array Nat):Prop where
 fr:Fr (fun _=>False) w wr
 hm:w.heap.size≤m∧m<q∧q<nb∧nb<it
 iter:wr.heap[it]? =some (.mapIter (some nb) 5 S 5)
 names:wr.heap[nb]? =some (.map nameEs 5)
 box:wr.heap[q]? =some (.cells #[.map (some m)] 160 (0,0))
 said:SMap wr m (z48 attr S.toList)
 five:∀i∈S.toList,i<5
theorem EncR.step {w wr w':World}{attr:Bool}{m q nb it i:Nat}{S:Array Nat}(h:EncR w wr attr m q nb it S)(hi:i<5)(hw:w'=wr∨w'=wr.drew):
 let W:=setBlock w' it (.mapIter (some nb) 5 (S.push i) 5)
 Fr (fun _=>False) w W∧W.heap[it]? =some (.mapIter (some nb) 5 (S.push i) 5)∧W.heap[nb]? =some (.map nameEs 5)∧W.heap[q]? =some (.cells #[.map (some m)] 160 (0,0))∧SMap W m (z48 attr S.toList)∧(∀j∈(S.push i).toList,j<5):=by
 have hs:w'.heap=wr.heap∧w'.tape=wr.tape∧w'.os=wr.os∧w'.output=wr.output:=by rcases hw with rfl|rfl<;>exact⟨rfl,rfl,rfl,rfl⟩
 have hit:=lt_of_block h.iter;have hoth:∀k,k≠it→(setBlock w' it (.mapIter (some nb) 5 (S.push i) 5)).heap[k]? =wr.heap[k]? :=fun k hk=>by show (w'.heap.setIfInBounds it _)[k]? =_;rw[hs.1];simp[Ne.symm hk]
 have hnew:(setBlock w' it (.mapIter (some nb) 5 (S.push i) 5)).heap[it]? =some (.mapIter (some nb) 5 (S.push i) 5):=by show (w'.heap.setIfInBounds it _)[it]? =_;rw[hs.1];simp[hit]
 obtain⟨m1,m2,m3,m4⟩:=h.hm;refine⟨⟨?_, ?_, ?_, ?_,fun k hk hn=> ?_⟩,hnew,(hoth nb (by omega)).trans h.names,(hoth q (by omega)).trans h.box,h.said.keep (hoth m (by omega)),fun j hj=> ?_⟩
 · exact hs.2.2.1.trans h.fr.os
 · exact hs.2.1.trans h.fr.tape
 · exact hs.2.2.2.trans h.fr.output
 · show _≤(w'.heap.setIfInBounds it _).size;rw[Array.size_setIfInBounds,hs.1];exact h.fr.size
 · rw[hoth k (by omega)];exact h.fr.block k hk hn
 · rw[zeg] at hj;rcases hj with hj|rfl
   · exact h.five j hj
   · exact hi
end Go.Proofs.YtnlacmnoocigiaaGreatDoor
